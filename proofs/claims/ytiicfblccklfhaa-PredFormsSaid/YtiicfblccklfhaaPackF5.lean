/- The closed law PredForms: it returns true (part 6 of 7: texts written by this claim's programs and by hand, joined) -/
import Derived.Test.YtiicfblccklfhaaPackF0
import Derived.Test.YtiicfblccklfhaaPackF1
import Derived.Test.YtiicfblccklfhaaPackF2
import Derived.Test.YtiicfblccklfhaaPackF3
import Derived.Test.YtiicfblccklfhaaPackF4
section
namespace Go.Proofs.Ytiicfblccklfhaa.PPG2
open Go.RowKit Go.Proofs.YtiicfblccklfhaaW.PrintWords Go.Proofs.YtiicfblccklfhaaW.PrintLast Go.Proofs.YtiicfblccklfhaaW.PrintMore
attribute [local go_sem] max2_int min2_int max_two min_two max_three min_three max_four min_four
open Go.Proofs.Ytiicfblccklfhaa.Ext Go.Proofs.Ytiicfblccklfhaa.PK Go.Proofs.Ytiicfblccklfhaa.PPF
set_option linter.unusedVariables false
set_option linter.unusedSimpArgs false
mutual
def rabbetlaw23_PredForms.l0 : Nat → List (S26) → List (List (S28)) → List Int → Int → List (S64) → Int → Int → Int → ByteArray → Int → Int → ByteArray → Option (Bool)
  | 0, _, _, _, _, _, _, _, _, _, _, _, _ => none
  | k + 1, x5, x6, x7, x8, x106000, x106001, x107000, x107001, x107002, x109000, x109001, x109002 => if x8 < (x6.length : Int) then (if 0 ≤ x8 then ((pred_Check.f x106000 x106001 (rd_L13 x6 x8)).bind fun t161 => (if t161 = 0 then ((pred_Row.f k x106000 x106001 (rd_L13 x6 x8) x5).bind fun t163 => (if x8 < (x7.length : Int) then (if t163 = (rd x7 x8) then (rabbetlaw23_PredForms.l0 k x5 x6 x7 (wrap64 (x8 + 1)) x106000 x106001 x107000 x107001 x107002 x109000 x109001 x109002) else (some false)) else (none))) else (some false))) else (none)) else (if 9 ≤ 4398046511104 then (rabbetlaw23_PredForms.l1 k (([(List.replicate 9 z28), (([(⟨(⟨#[105]⟩ : ByteArray), 0, (⟨0, 0, (⟨#[]⟩ : ByteArray)⟩ : S26), false, false⟩ : S28)] : List (S28))), (([(⟨(⟨#[105]⟩ : ByteArray), 9, (⟨0, 0, (⟨#[]⟩ : ByteArray)⟩ : S26), false, false⟩ : S28)] : List (S28))), (([(⟨(⟨#[105]⟩ : ByteArray), 1, (⟨9, 0, (⟨#[]⟩ : ByteArray)⟩ : S26), false, false⟩ : S28)] : List (S28))), (([(⟨(⟨#[120]⟩ : ByteArray), 7, (⟨0, 0, (⟨#[]⟩ : ByteArray)⟩ : S26), false, false⟩ : S28)] : List (S28))), (([(⟨(⟨#[105]⟩ : ByteArray), 1, (⟨x109000, x109001, x109002⟩ : S26), false, false⟩ : S28)] : List (S28))), (([(⟨(⟨#[116]⟩ : ByteArray), 1, (⟨x107000, x107001, x107002⟩ : S26), false, false⟩ : S28)] : List (S28))), (([(⟨(⟨#[120]⟩ : ByteArray), 7, (⟨0, 0, (⟨#[]⟩ : ByteArray)⟩ : S26), false, false⟩ : S28), (⟨(⟨#[105]⟩ : ByteArray), 0, (⟨0, 0, (⟨#[]⟩ : ByteArray)⟩ : S26), false, false⟩ : S28)] : List (S28)))] : List (List (S28)))) (([1, 1, 1, 1, 3, 4, 4, 1] : List Int)) 0 x106000 x106001 x109000 x109001 x109002) else (none))
def rabbetlaw23_PredForms.l1 : Nat → List (List (S28)) → List Int → Int → List (S64) → Int → Int → Int → ByteArray → Option (Bool)
  | 0, _, _, _, _, _, _, _, _ => none
  | k + 1, x9, x10, x11, x106000, x106001, x109000, x109001, x109002 => if x11 < (x9.length : Int) then (if 0 ≤ x11 then ((pred_Check.f x106000 x106001 (rd_L13 x9 x11)).bind fun t196 => (if x11 < (x10.length : Int) then (if t196 = (rd x10 x11) then (rabbetlaw23_PredForms.l1 k x9 x10 (wrap64 (x11 + 1)) x106000 x106001 x109000 x109001 x109002) else (some false)) else (none))) else (none)) else ((pred_Check.f x106000 x106001 (([(⟨(⟨#[105]⟩ : ByteArray), 7, (⟨x109000, x109001, x109002⟩ : S26), false, false⟩ : S28)] : List (S28)))).bind fun t201 => (some (t201 == 0)))
end
def rabbetlaw23_PredForms.f (k : Nat)  : Option (Bool) := (rabbetlaw23_begun.f k).bind fun t101 => (if t101 = true then (rabbetlaw23_PredForms.l0 k (([(⟨2, 1, (⟨#[]⟩ : ByteArray)⟩ : S26), (⟨0, 0, (⟨#[]⟩ : ByteArray)⟩ : S26)] : List (S26))) (([(([(⟨(⟨#[105]⟩ : ByteArray), 1, (⟨2, 1, (⟨#[]⟩ : ByteArray)⟩ : S26), false, false⟩ : S28)] : List (S28))), (([(⟨(⟨#[105]⟩ : ByteArray), 3, (⟨1, 2, (⟨#[]⟩ : ByteArray)⟩ : S26), false, false⟩ : S28)] : List (S28))), (([(⟨(⟨#[105]⟩ : ByteArray), 2, (⟨2, 1, (⟨#[]⟩ : ByteArray)⟩ : S26), false, false⟩ : S28)] : List (S28))), (([(⟨(⟨#[116]⟩ : ByteArray), 1, (⟨4, 0, (⟨#[98]⟩ : ByteArray)⟩ : S26), false, false⟩ : S28)] : List (S28))), (([(⟨(⟨#[116]⟩ : ByteArray), 7, (⟨0, 0, (⟨#[]⟩ : ByteArray)⟩ : S26), false, false⟩ : S28)] : List (S28))), (([(⟨(⟨#[116]⟩ : ByteArray), 8, (⟨0, 0, (⟨#[]⟩ : ByteArray)⟩ : S26), false, false⟩ : S28)] : List (S28))), (([(⟨(⟨#[116]⟩ : ByteArray), 8, (⟨0, 0, (⟨#[]⟩ : ByteArray)⟩ : S26), false, true⟩ : S28)] : List (S28))), (([(⟨(⟨#[116]⟩ : ByteArray), 2, (⟨4, 0, (⟨#[98]⟩ : ByteArray)⟩ : S26), false, true⟩ : S28)] : List (S28))), (([(⟨(⟨#[105]⟩ : ByteArray), 1, (⟨0, 0, (⟨#[]⟩ : ByteArray)⟩ : S26), false, false⟩ : S28)] : List (S28))), (([(⟨(⟨#[105]⟩ : ByteArray), 1, (⟨1, 2, (⟨#[]⟩ : ByteArray)⟩ : S26), false, false⟩ : S28), (⟨(⟨#[116]⟩ : ByteArray), 1, (⟨4, 0, (⟨#[98]⟩ : ByteArray)⟩ : S26), true, false⟩ : S28)] : List (S28))), (([(⟨(⟨#[105]⟩ : ByteArray), 1, (⟨2, 1, (⟨#[]⟩ : ByteArray)⟩ : S26), false, false⟩ : S28), (⟨(⟨#[116]⟩ : ByteArray), 1, (⟨4, 0, (⟨#[98]⟩ : ByteArray)⟩ : S26), false, false⟩ : S28)] : List (S28))), (([(⟨(⟨#[105]⟩ : ByteArray), 1, (⟨1, 2, (⟨#[]⟩ : ByteArray)⟩ : S26), false, false⟩ : S28), (⟨(⟨#[116]⟩ : ByteArray), 1, (⟨4, 0, (⟨#[98]⟩ : ByteArray)⟩ : S26), false, false⟩ : S28)] : List (S28))), (([(⟨(⟨#[116]⟩ : ByteArray), 1, (⟨4, 0, (⟨#[98]⟩ : ByteArray)⟩ : S26), false, false⟩ : S28), (⟨(⟨#[105]⟩ : ByteArray), 1, (⟨1, 2, (⟨#[]⟩ : ByteArray)⟩ : S26), false, false⟩ : S28), (⟨(⟨#[105]⟩ : ByteArray), 1, (⟨2, 1, (⟨#[]⟩ : ByteArray)⟩ : S26), true, false⟩ : S28)] : List (S28))), (([(⟨(⟨#[105]⟩ : ByteArray), 1, (⟨2, 1, (⟨#[]⟩ : ByteArray)⟩ : S26), true, false⟩ : S28)] : List (S28)))] : List (List (S28)))) (([2, 2, 0, 1, 2, 0, 2, 1, 1, 1, 1, 0, 2, 2] : List Int)) 0 (([(⟨1, (⟨#[105]⟩ : ByteArray), 2⟩ : S64), (⟨2, (⟨#[116]⟩ : ByteArray), 4⟩ : S64)] : List (S64))) 2 2 1 (⟨#[]⟩ : ByteArray) 4 0 (⟨#[98]⟩ : ByteArray)) else (some false))
theorem rabbetlaw23_PredForms.mono_l : ∀ k, (∀ y0 y1 y2 y3 y4 y5 y6 y7 y8 y9 y10 y11, LeO (rabbetlaw23_PredForms.l0 k y0 y1 y2 y3 y4 y5 y6 y7 y8 y9 y10 y11) (rabbetlaw23_PredForms.l0 (k + 1) y0 y1 y2 y3 y4 y5 y6 y7 y8 y9 y10 y11)) ∧ (∀ y0 y1 y2 y3 y4 y5 y6 y7, LeO (rabbetlaw23_PredForms.l1 k y0 y1 y2 y3 y4 y5 y6 y7) (rabbetlaw23_PredForms.l1 (k + 1) y0 y1 y2 y3 y4 y5 y6 y7))
  | 0 => ⟨fun _ _ _ _ _ _ _ _ _ _ _ _ r h => by simp [rabbetlaw23_PredForms.l0] at h, fun _ _ _ _ _ _ _ _ r h => by simp [rabbetlaw23_PredForms.l1] at h⟩
  | k + 1 => by
    obtain ⟨ih0, ih1⟩ := rabbetlaw23_PredForms.mono_l k
    refine ⟨?_, ?_⟩
    · intro y0 y1 y2 y3 y4 y5 y6 y7 y8 y9 y10 y11
      unfold rabbetlaw23_PredForms.l0
      repeat' first
      | (with_reducible exact ih0 _ _ _ _ _ _ _ _ _ _ _ _)
      | (with_reducible exact ih1 _ _ _ _ _ _ _ _)
      | (with_reducible exact pred_Row.mono _ _ _ _ _)
      | (with_reducible exact rabbetlaw23_begun.mono _)
      | (with_reducible exact LeO.refl _)
      | (with_reducible exact LeO.none _)
      | (with_reducible refine LeO.ite ?_ ?_)
      | (with_reducible refine LeO.bind ?_ (fun _ => ?_))
      | exact ih0 _ _ _ _ _ _ _ _ _ _ _ _
      | exact ih1 _ _ _ _ _ _ _ _
      | exact pred_Row.mono _ _ _ _ _
      | exact rabbetlaw23_begun.mono _
      | exact LeO.none _
      | refine LeO.ite ?_ ?_
      | refine LeO.bind ?_ (fun _ => ?_)
    · intro y0 y1 y2 y3 y4 y5 y6 y7
      unfold rabbetlaw23_PredForms.l1
      repeat' first
      | (with_reducible exact ih0 _ _ _ _ _ _ _ _ _ _ _ _)
      | (with_reducible exact ih1 _ _ _ _ _ _ _ _)
      | (with_reducible exact pred_Row.mono _ _ _ _ _)
      | (with_reducible exact rabbetlaw23_begun.mono _)
      | (with_reducible exact LeO.refl _)
      | (with_reducible exact LeO.none _)
      | (with_reducible refine LeO.ite ?_ ?_)
      | (with_reducible refine LeO.bind ?_ (fun _ => ?_))
      | exact ih0 _ _ _ _ _ _ _ _ _ _ _ _
      | exact ih1 _ _ _ _ _ _ _ _
      | exact pred_Row.mono _ _ _ _ _
      | exact rabbetlaw23_begun.mono _
      | exact LeO.none _
      | refine LeO.ite ?_ ?_
      | refine LeO.bind ?_ (fun _ => ?_)
theorem rabbetlaw23_PredForms.mono : ∀ k, LeO (rabbetlaw23_PredForms.f k ) (rabbetlaw23_PredForms.f (k + 1) ) := by
  intro  k
  obtain ⟨ih0, ih1⟩ := rabbetlaw23_PredForms.mono_l k
  unfold rabbetlaw23_PredForms.f
  repeat' first
      | (with_reducible exact ih0 _ _ _ _ _ _ _ _ _ _ _ _)
      | (with_reducible exact ih1 _ _ _ _ _ _ _ _)
      | (with_reducible exact pred_Row.mono _ _ _ _ _)
      | (with_reducible exact rabbetlaw23_begun.mono _)
      | (with_reducible exact LeO.refl _)
      | (with_reducible exact LeO.none _)
      | (with_reducible refine LeO.ite ?_ ?_)
      | (with_reducible refine LeO.bind ?_ (fun _ => ?_))
      | exact ih0 _ _ _ _ _ _ _ _ _ _ _ _
      | exact ih1 _ _ _ _ _ _ _ _
      | exact pred_Row.mono _ _ _ _ _
      | exact rabbetlaw23_begun.mono _
      | exact LeO.none _
      | refine LeO.ite ?_ ?_
      | refine LeO.bind ?_ (fun _ => ?_)
def rabbetlaw23_PredForms.T12 : Bool × List (List Nat × List Nat) := (true, [([], []), ([], []), ([], []), ([1, 2], [1, 2]), ([3], [3]), ([0, 4], [0, 4]), ([5], [5]), ([6, 5], [6]), ([7], [7]), ([7], [7]), ([7], [7]), ([9, 10, 7], [7, 9, 10]), ([11, 7], [7, 11]), ([7], [7]), ([8, 12, 13, 7, 7], [7, 8, 12, 13]), ([7], [7]), ([7], [7]), ([15, 16, 7], [7, 15, 16]), ([17, 7], [7, 17]), ([14, 18, 7], [7, 14, 18]), ([7, 19], [7, 19])])
def rabbetlaw23_PredForms.B12 : List Nat := [0, 0, 0, 6, 14, 31, 63, 127, 255, 255, 255, 1791, 3839, 255, 16383, 255, 255, 98559, 229631, 524287, 1048575]
theorem rabbetlaw23_PredForms.tab12 : rtab .any (opsOf Try.f5 12) = rabbetlaw23_PredForms.T12 := by kernel_rfl
theorem rabbetlaw23_PredForms.bits12 : waitsOk rabbetlaw23_PredForms.T12.2 rabbetlaw23_PredForms.B12 = true := by kernel_rfl
def rabbetlaw23_PredForms.T14 : Bool × List (List Nat × List Nat) := (true, [([], []), ([], []), ([1], [1]), ([], []), ([3], [3]), ([], []), ([5], [5]), ([6], [6]), ([], []), ([8], [8]), ([], []), ([10], [10]), ([11], [11]), ([], []), ([13], [13]), ([14], [14]), ([], []), ([], []), ([16, 17], [16, 17]), ([0, 2, 4, 7, 9, 12, 15, 18], [0, 2, 4, 7, 9, 12, 15, 18]), ([19, 0, 1, 2, 3, 4, 5, 6, 7, 8, 9, 10, 11, 12, 13, 14, 15, 16, 17, 18, 19], [19])])
def rabbetlaw23_PredForms.B14 : List Nat := [0, 0, 2, 0, 8, 0, 32, 96, 0, 256, 0, 1024, 3072, 0, 8192, 24576, 0, 0, 196608, 524287, 1048575]
theorem rabbetlaw23_PredForms.tab14 : rtab .any (opsOf Try.f5 14) = rabbetlaw23_PredForms.T14 := by kernel_rfl
theorem rabbetlaw23_PredForms.bits14 : waitsOk rabbetlaw23_PredForms.T14.2 rabbetlaw23_PredForms.B14 = true := by kernel_rfl
def rabbetlaw23_PredForms.T19 : Bool × List (List Nat × List Nat) := (true, [([], []), ([], []), ([], []), ([1, 2], [1, 2]), ([3], [3]), ([0, 4], [0, 4]), ([], []), ([], []), ([6, 7], [6, 7]), ([8], [8]), ([5, 9], [5, 9])])
def rabbetlaw23_PredForms.B19 : List Nat := [0, 0, 0, 6, 14, 31, 0, 0, 192, 448, 1023]
theorem rabbetlaw23_PredForms.tab19 : rtab .any (opsOf Try.f5 19) = rabbetlaw23_PredForms.T19 := by kernel_rfl
theorem rabbetlaw23_PredForms.bits19 : waitsOk rabbetlaw23_PredForms.T19.2 rabbetlaw23_PredForms.B19 = true := by kernel_rfl
set_option maxHeartbeats 80000000 in
set_option maxRecDepth 100000 in
noncomputable def rabbetlaw23_PredForms.calls_c : (p0_ : Prop) ×' (p1_ : Prop) ×' (p2_ : Prop) ×' (p3_ : Prop) ×' (p0_ → p1_ → p2_ → p3_ → ∀ (k : Nat)  (r : Bool) (w : World) (h : rabbetlaw23_PredForms.f k  = some r), Calls Try.prog 5 #[] w fun e w' => e = .returned (.bool r) ∧ Below w.heap.size w w') := by
 apply PSigma.mk
 apply PSigma.mk
 apply PSigma.mk
 apply PSigma.mk
 intro hole0_ hole1_ hole2_ hole3_ k r w h
 have hu64 := Try.underlying64
 have hu33 := Try.underlying33
 have hu26 := Try.underlying26
 have hu28 := Try.underlying28
 have HB := Aside0.mk (Below.refl w.heap.size w)
 have H : ((rabbetlaw23_begun.f k).bind fun t101 => (if t101 = true then (rabbetlaw23_PredForms.l0 k (([(⟨2, 1, (⟨#[]⟩ : ByteArray)⟩ : S26), (⟨0, 0, (⟨#[]⟩ : ByteArray)⟩ : S26)] : List (S26))) (([(([(⟨(⟨#[105]⟩ : ByteArray), 1, (⟨2, 1, (⟨#[]⟩ : ByteArray)⟩ : S26), false, false⟩ : S28)] : List (S28))), (([(⟨(⟨#[105]⟩ : ByteArray), 3, (⟨1, 2, (⟨#[]⟩ : ByteArray)⟩ : S26), false, false⟩ : S28)] : List (S28))), (([(⟨(⟨#[105]⟩ : ByteArray), 2, (⟨2, 1, (⟨#[]⟩ : ByteArray)⟩ : S26), false, false⟩ : S28)] : List (S28))), (([(⟨(⟨#[116]⟩ : ByteArray), 1, (⟨4, 0, (⟨#[98]⟩ : ByteArray)⟩ : S26), false, false⟩ : S28)] : List (S28))), (([(⟨(⟨#[116]⟩ : ByteArray), 7, (⟨0, 0, (⟨#[]⟩ : ByteArray)⟩ : S26), false, false⟩ : S28)] : List (S28))), (([(⟨(⟨#[116]⟩ : ByteArray), 8, (⟨0, 0, (⟨#[]⟩ : ByteArray)⟩ : S26), false, false⟩ : S28)] : List (S28))), (([(⟨(⟨#[116]⟩ : ByteArray), 8, (⟨0, 0, (⟨#[]⟩ : ByteArray)⟩ : S26), false, true⟩ : S28)] : List (S28))), (([(⟨(⟨#[116]⟩ : ByteArray), 2, (⟨4, 0, (⟨#[98]⟩ : ByteArray)⟩ : S26), false, true⟩ : S28)] : List (S28))), (([(⟨(⟨#[105]⟩ : ByteArray), 1, (⟨0, 0, (⟨#[]⟩ : ByteArray)⟩ : S26), false, false⟩ : S28)] : List (S28))), (([(⟨(⟨#[105]⟩ : ByteArray), 1, (⟨1, 2, (⟨#[]⟩ : ByteArray)⟩ : S26), false, false⟩ : S28), (⟨(⟨#[116]⟩ : ByteArray), 1, (⟨4, 0, (⟨#[98]⟩ : ByteArray)⟩ : S26), true, false⟩ : S28)] : List (S28))), (([(⟨(⟨#[105]⟩ : ByteArray), 1, (⟨2, 1, (⟨#[]⟩ : ByteArray)⟩ : S26), false, false⟩ : S28), (⟨(⟨#[116]⟩ : ByteArray), 1, (⟨4, 0, (⟨#[98]⟩ : ByteArray)⟩ : S26), false, false⟩ : S28)] : List (S28))), (([(⟨(⟨#[105]⟩ : ByteArray), 1, (⟨1, 2, (⟨#[]⟩ : ByteArray)⟩ : S26), false, false⟩ : S28), (⟨(⟨#[116]⟩ : ByteArray), 1, (⟨4, 0, (⟨#[98]⟩ : ByteArray)⟩ : S26), false, false⟩ : S28)] : List (S28))), (([(⟨(⟨#[116]⟩ : ByteArray), 1, (⟨4, 0, (⟨#[98]⟩ : ByteArray)⟩ : S26), false, false⟩ : S28), (⟨(⟨#[105]⟩ : ByteArray), 1, (⟨1, 2, (⟨#[]⟩ : ByteArray)⟩ : S26), false, false⟩ : S28), (⟨(⟨#[105]⟩ : ByteArray), 1, (⟨2, 1, (⟨#[]⟩ : ByteArray)⟩ : S26), true, false⟩ : S28)] : List (S28))), (([(⟨(⟨#[105]⟩ : ByteArray), 1, (⟨2, 1, (⟨#[]⟩ : ByteArray)⟩ : S26), true, false⟩ : S28)] : List (S28)))] : List (List (S28)))) (([2, 2, 0, 1, 2, 0, 2, 1, 1, 1, 1, 0, 2, 2] : List Int)) 0 (([(⟨1, (⟨#[105]⟩ : ByteArray), 2⟩ : S64), (⟨2, (⟨#[116]⟩ : ByteArray), 4⟩ : S64)] : List (S64))) 2 2 1 (⟨#[]⟩ : ByteArray) 4 0 (⟨#[98]⟩ : ByteArray)) else (some false))) = some r := h
 clear h
 replace H := Option.bind_eq_some_iff.mp H
 obtain ⟨t101, A10, H⟩ := H
 replace H : (if t101 = true then (rabbetlaw23_PredForms.l0 k (([(⟨2, 1, (⟨#[]⟩ : ByteArray)⟩ : S26), (⟨0, 0, (⟨#[]⟩ : ByteArray)⟩ : S26)] : List (S26))) (([(([(⟨(⟨#[105]⟩ : ByteArray), 1, (⟨2, 1, (⟨#[]⟩ : ByteArray)⟩ : S26), false, false⟩ : S28)] : List (S28))), (([(⟨(⟨#[105]⟩ : ByteArray), 3, (⟨1, 2, (⟨#[]⟩ : ByteArray)⟩ : S26), false, false⟩ : S28)] : List (S28))), (([(⟨(⟨#[105]⟩ : ByteArray), 2, (⟨2, 1, (⟨#[]⟩ : ByteArray)⟩ : S26), false, false⟩ : S28)] : List (S28))), (([(⟨(⟨#[116]⟩ : ByteArray), 1, (⟨4, 0, (⟨#[98]⟩ : ByteArray)⟩ : S26), false, false⟩ : S28)] : List (S28))), (([(⟨(⟨#[116]⟩ : ByteArray), 7, (⟨0, 0, (⟨#[]⟩ : ByteArray)⟩ : S26), false, false⟩ : S28)] : List (S28))), (([(⟨(⟨#[116]⟩ : ByteArray), 8, (⟨0, 0, (⟨#[]⟩ : ByteArray)⟩ : S26), false, false⟩ : S28)] : List (S28))), (([(⟨(⟨#[116]⟩ : ByteArray), 8, (⟨0, 0, (⟨#[]⟩ : ByteArray)⟩ : S26), false, true⟩ : S28)] : List (S28))), (([(⟨(⟨#[116]⟩ : ByteArray), 2, (⟨4, 0, (⟨#[98]⟩ : ByteArray)⟩ : S26), false, true⟩ : S28)] : List (S28))), (([(⟨(⟨#[105]⟩ : ByteArray), 1, (⟨0, 0, (⟨#[]⟩ : ByteArray)⟩ : S26), false, false⟩ : S28)] : List (S28))), (([(⟨(⟨#[105]⟩ : ByteArray), 1, (⟨1, 2, (⟨#[]⟩ : ByteArray)⟩ : S26), false, false⟩ : S28), (⟨(⟨#[116]⟩ : ByteArray), 1, (⟨4, 0, (⟨#[98]⟩ : ByteArray)⟩ : S26), true, false⟩ : S28)] : List (S28))), (([(⟨(⟨#[105]⟩ : ByteArray), 1, (⟨2, 1, (⟨#[]⟩ : ByteArray)⟩ : S26), false, false⟩ : S28), (⟨(⟨#[116]⟩ : ByteArray), 1, (⟨4, 0, (⟨#[98]⟩ : ByteArray)⟩ : S26), false, false⟩ : S28)] : List (S28))), (([(⟨(⟨#[105]⟩ : ByteArray), 1, (⟨1, 2, (⟨#[]⟩ : ByteArray)⟩ : S26), false, false⟩ : S28), (⟨(⟨#[116]⟩ : ByteArray), 1, (⟨4, 0, (⟨#[98]⟩ : ByteArray)⟩ : S26), false, false⟩ : S28)] : List (S28))), (([(⟨(⟨#[116]⟩ : ByteArray), 1, (⟨4, 0, (⟨#[98]⟩ : ByteArray)⟩ : S26), false, false⟩ : S28), (⟨(⟨#[105]⟩ : ByteArray), 1, (⟨1, 2, (⟨#[]⟩ : ByteArray)⟩ : S26), false, false⟩ : S28), (⟨(⟨#[105]⟩ : ByteArray), 1, (⟨2, 1, (⟨#[]⟩ : ByteArray)⟩ : S26), true, false⟩ : S28)] : List (S28))), (([(⟨(⟨#[105]⟩ : ByteArray), 1, (⟨2, 1, (⟨#[]⟩ : ByteArray)⟩ : S26), true, false⟩ : S28)] : List (S28)))] : List (List (S28)))) (([2, 2, 0, 1, 2, 0, 2, 1, 1, 1, 1, 0, 2, 2] : List Int)) 0 (([(⟨1, (⟨#[105]⟩ : ByteArray), 2⟩ : S64), (⟨2, (⟨#[116]⟩ : ByteArray), 4⟩ : S64)] : List (S64))) 2 2 1 (⟨#[]⟩ : ByteArray) 4 0 (⟨#[98]⟩ : ByteArray)) else (some false)) = some r := H
 have A1 := Aside0.mk A10
 clear A10
 by_cases c2 : t101 = true
 ·subst c2
  have H1 : (rabbetlaw23_PredForms.l0 k (([(⟨2, 1, (⟨#[]⟩ : ByteArray)⟩ : S26), (⟨0, 0, (⟨#[]⟩ : ByteArray)⟩ : S26)] : List (S26))) (([(([(⟨(⟨#[105]⟩ : ByteArray), 1, (⟨2, 1, (⟨#[]⟩ : ByteArray)⟩ : S26), false, false⟩ : S28)] : List (S28))), (([(⟨(⟨#[105]⟩ : ByteArray), 3, (⟨1, 2, (⟨#[]⟩ : ByteArray)⟩ : S26), false, false⟩ : S28)] : List (S28))), (([(⟨(⟨#[105]⟩ : ByteArray), 2, (⟨2, 1, (⟨#[]⟩ : ByteArray)⟩ : S26), false, false⟩ : S28)] : List (S28))), (([(⟨(⟨#[116]⟩ : ByteArray), 1, (⟨4, 0, (⟨#[98]⟩ : ByteArray)⟩ : S26), false, false⟩ : S28)] : List (S28))), (([(⟨(⟨#[116]⟩ : ByteArray), 7, (⟨0, 0, (⟨#[]⟩ : ByteArray)⟩ : S26), false, false⟩ : S28)] : List (S28))), (([(⟨(⟨#[116]⟩ : ByteArray), 8, (⟨0, 0, (⟨#[]⟩ : ByteArray)⟩ : S26), false, false⟩ : S28)] : List (S28))), (([(⟨(⟨#[116]⟩ : ByteArray), 8, (⟨0, 0, (⟨#[]⟩ : ByteArray)⟩ : S26), false, true⟩ : S28)] : List (S28))), (([(⟨(⟨#[116]⟩ : ByteArray), 2, (⟨4, 0, (⟨#[98]⟩ : ByteArray)⟩ : S26), false, true⟩ : S28)] : List (S28))), (([(⟨(⟨#[105]⟩ : ByteArray), 1, (⟨0, 0, (⟨#[]⟩ : ByteArray)⟩ : S26), false, false⟩ : S28)] : List (S28))), (([(⟨(⟨#[105]⟩ : ByteArray), 1, (⟨1, 2, (⟨#[]⟩ : ByteArray)⟩ : S26), false, false⟩ : S28), (⟨(⟨#[116]⟩ : ByteArray), 1, (⟨4, 0, (⟨#[98]⟩ : ByteArray)⟩ : S26), true, false⟩ : S28)] : List (S28))), (([(⟨(⟨#[105]⟩ : ByteArray), 1, (⟨2, 1, (⟨#[]⟩ : ByteArray)⟩ : S26), false, false⟩ : S28), (⟨(⟨#[116]⟩ : ByteArray), 1, (⟨4, 0, (⟨#[98]⟩ : ByteArray)⟩ : S26), false, false⟩ : S28)] : List (S28))), (([(⟨(⟨#[105]⟩ : ByteArray), 1, (⟨1, 2, (⟨#[]⟩ : ByteArray)⟩ : S26), false, false⟩ : S28), (⟨(⟨#[116]⟩ : ByteArray), 1, (⟨4, 0, (⟨#[98]⟩ : ByteArray)⟩ : S26), false, false⟩ : S28)] : List (S28))), (([(⟨(⟨#[116]⟩ : ByteArray), 1, (⟨4, 0, (⟨#[98]⟩ : ByteArray)⟩ : S26), false, false⟩ : S28), (⟨(⟨#[105]⟩ : ByteArray), 1, (⟨1, 2, (⟨#[]⟩ : ByteArray)⟩ : S26), false, false⟩ : S28), (⟨(⟨#[105]⟩ : ByteArray), 1, (⟨2, 1, (⟨#[]⟩ : ByteArray)⟩ : S26), true, false⟩ : S28)] : List (S28))), (([(⟨(⟨#[105]⟩ : ByteArray), 1, (⟨2, 1, (⟨#[]⟩ : ByteArray)⟩ : S26), true, false⟩ : S28)] : List (S28)))] : List (List (S28)))) (([2, 2, 0, 1, 2, 0, 2, 1, 1, 1, 1, 0, 2, 2] : List Int)) 0 (([(⟨1, (⟨#[105]⟩ : ByteArray), 2⟩ : S64), (⟨2, (⟨#[116]⟩ : ByteArray), 4⟩ : S64)] : List (S64))) 2 2 1 (⟨#[]⟩ : ByteArray) 4 0 (⟨#[98]⟩ : ByteArray)) = some r := by rw [if_pos rfl] at H; exact H
  clear H
  have H := H1
  clear H1
  obtain ⟨y102, hy102⟩ : ∃ y_ : List (S64), y_ = (([(⟨1, (⟨#[105]⟩ : ByteArray), 2⟩ : S64), (⟨2, (⟨#[116]⟩ : ByteArray), 4⟩ : S64)] : List (S64))) := ⟨_, rfl⟩
  replace H : (rabbetlaw23_PredForms.l0 k (([(⟨2, 1, (⟨#[]⟩ : ByteArray)⟩ : S26), (⟨0, 0, (⟨#[]⟩ : ByteArray)⟩ : S26)] : List (S26))) (([(([(⟨(⟨#[105]⟩ : ByteArray), 1, (⟨2, 1, (⟨#[]⟩ : ByteArray)⟩ : S26), false, false⟩ : S28)] : List (S28))), (([(⟨(⟨#[105]⟩ : ByteArray), 3, (⟨1, 2, (⟨#[]⟩ : ByteArray)⟩ : S26), false, false⟩ : S28)] : List (S28))), (([(⟨(⟨#[105]⟩ : ByteArray), 2, (⟨2, 1, (⟨#[]⟩ : ByteArray)⟩ : S26), false, false⟩ : S28)] : List (S28))), (([(⟨(⟨#[116]⟩ : ByteArray), 1, (⟨4, 0, (⟨#[98]⟩ : ByteArray)⟩ : S26), false, false⟩ : S28)] : List (S28))), (([(⟨(⟨#[116]⟩ : ByteArray), 7, (⟨0, 0, (⟨#[]⟩ : ByteArray)⟩ : S26), false, false⟩ : S28)] : List (S28))), (([(⟨(⟨#[116]⟩ : ByteArray), 8, (⟨0, 0, (⟨#[]⟩ : ByteArray)⟩ : S26), false, false⟩ : S28)] : List (S28))), (([(⟨(⟨#[116]⟩ : ByteArray), 8, (⟨0, 0, (⟨#[]⟩ : ByteArray)⟩ : S26), false, true⟩ : S28)] : List (S28))), (([(⟨(⟨#[116]⟩ : ByteArray), 2, (⟨4, 0, (⟨#[98]⟩ : ByteArray)⟩ : S26), false, true⟩ : S28)] : List (S28))), (([(⟨(⟨#[105]⟩ : ByteArray), 1, (⟨0, 0, (⟨#[]⟩ : ByteArray)⟩ : S26), false, false⟩ : S28)] : List (S28))), (([(⟨(⟨#[105]⟩ : ByteArray), 1, (⟨1, 2, (⟨#[]⟩ : ByteArray)⟩ : S26), false, false⟩ : S28), (⟨(⟨#[116]⟩ : ByteArray), 1, (⟨4, 0, (⟨#[98]⟩ : ByteArray)⟩ : S26), true, false⟩ : S28)] : List (S28))), (([(⟨(⟨#[105]⟩ : ByteArray), 1, (⟨2, 1, (⟨#[]⟩ : ByteArray)⟩ : S26), false, false⟩ : S28), (⟨(⟨#[116]⟩ : ByteArray), 1, (⟨4, 0, (⟨#[98]⟩ : ByteArray)⟩ : S26), false, false⟩ : S28)] : List (S28))), (([(⟨(⟨#[105]⟩ : ByteArray), 1, (⟨1, 2, (⟨#[]⟩ : ByteArray)⟩ : S26), false, false⟩ : S28), (⟨(⟨#[116]⟩ : ByteArray), 1, (⟨4, 0, (⟨#[98]⟩ : ByteArray)⟩ : S26), false, false⟩ : S28)] : List (S28))), (([(⟨(⟨#[116]⟩ : ByteArray), 1, (⟨4, 0, (⟨#[98]⟩ : ByteArray)⟩ : S26), false, false⟩ : S28), (⟨(⟨#[105]⟩ : ByteArray), 1, (⟨1, 2, (⟨#[]⟩ : ByteArray)⟩ : S26), false, false⟩ : S28), (⟨(⟨#[105]⟩ : ByteArray), 1, (⟨2, 1, (⟨#[]⟩ : ByteArray)⟩ : S26), true, false⟩ : S28)] : List (S28))), (([(⟨(⟨#[105]⟩ : ByteArray), 1, (⟨2, 1, (⟨#[]⟩ : ByteArray)⟩ : S26), true, false⟩ : S28)] : List (S28)))] : List (List (S28)))) (([2, 2, 0, 1, 2, 0, 2, 1, 1, 1, 1, 0, 2, 2] : List Int)) 0 y102 2 2 1 (⟨#[]⟩ : ByteArray) 4 0 (⟨#[98]⟩ : ByteArray)) = some r := by first | (rw [hy102]; with_reducible exact H) | (have H2_ := (Option.bind_some _ _).symm.trans H; rw [hy102]; with_reducible exact H2_) | (have H2_ := (Option.bind_some _ _).symm.trans H; with_reducible exact H2_) | with_reducible exact H | (rw [hy102]; exact H) | exact H
  have Ny102 := Aside0.mk hy102
  clear hy102
  obtain ⟨y109, hy109⟩ : ∃ y_ : List (S26), y_ = (([(⟨2, 1, (⟨#[]⟩ : ByteArray)⟩ : S26), (⟨0, 0, (⟨#[]⟩ : ByteArray)⟩ : S26)] : List (S26))) := ⟨_, rfl⟩
  replace H : (rabbetlaw23_PredForms.l0 k y109 (([(([(⟨(⟨#[105]⟩ : ByteArray), 1, (⟨2, 1, (⟨#[]⟩ : ByteArray)⟩ : S26), false, false⟩ : S28)] : List (S28))), (([(⟨(⟨#[105]⟩ : ByteArray), 3, (⟨1, 2, (⟨#[]⟩ : ByteArray)⟩ : S26), false, false⟩ : S28)] : List (S28))), (([(⟨(⟨#[105]⟩ : ByteArray), 2, (⟨2, 1, (⟨#[]⟩ : ByteArray)⟩ : S26), false, false⟩ : S28)] : List (S28))), (([(⟨(⟨#[116]⟩ : ByteArray), 1, (⟨4, 0, (⟨#[98]⟩ : ByteArray)⟩ : S26), false, false⟩ : S28)] : List (S28))), (([(⟨(⟨#[116]⟩ : ByteArray), 7, (⟨0, 0, (⟨#[]⟩ : ByteArray)⟩ : S26), false, false⟩ : S28)] : List (S28))), (([(⟨(⟨#[116]⟩ : ByteArray), 8, (⟨0, 0, (⟨#[]⟩ : ByteArray)⟩ : S26), false, false⟩ : S28)] : List (S28))), (([(⟨(⟨#[116]⟩ : ByteArray), 8, (⟨0, 0, (⟨#[]⟩ : ByteArray)⟩ : S26), false, true⟩ : S28)] : List (S28))), (([(⟨(⟨#[116]⟩ : ByteArray), 2, (⟨4, 0, (⟨#[98]⟩ : ByteArray)⟩ : S26), false, true⟩ : S28)] : List (S28))), (([(⟨(⟨#[105]⟩ : ByteArray), 1, (⟨0, 0, (⟨#[]⟩ : ByteArray)⟩ : S26), false, false⟩ : S28)] : List (S28))), (([(⟨(⟨#[105]⟩ : ByteArray), 1, (⟨1, 2, (⟨#[]⟩ : ByteArray)⟩ : S26), false, false⟩ : S28), (⟨(⟨#[116]⟩ : ByteArray), 1, (⟨4, 0, (⟨#[98]⟩ : ByteArray)⟩ : S26), true, false⟩ : S28)] : List (S28))), (([(⟨(⟨#[105]⟩ : ByteArray), 1, (⟨2, 1, (⟨#[]⟩ : ByteArray)⟩ : S26), false, false⟩ : S28), (⟨(⟨#[116]⟩ : ByteArray), 1, (⟨4, 0, (⟨#[98]⟩ : ByteArray)⟩ : S26), false, false⟩ : S28)] : List (S28))), (([(⟨(⟨#[105]⟩ : ByteArray), 1, (⟨1, 2, (⟨#[]⟩ : ByteArray)⟩ : S26), false, false⟩ : S28), (⟨(⟨#[116]⟩ : ByteArray), 1, (⟨4, 0, (⟨#[98]⟩ : ByteArray)⟩ : S26), false, false⟩ : S28)] : List (S28))), (([(⟨(⟨#[116]⟩ : ByteArray), 1, (⟨4, 0, (⟨#[98]⟩ : ByteArray)⟩ : S26), false, false⟩ : S28), (⟨(⟨#[105]⟩ : ByteArray), 1, (⟨1, 2, (⟨#[]⟩ : ByteArray)⟩ : S26), false, false⟩ : S28), (⟨(⟨#[105]⟩ : ByteArray), 1, (⟨2, 1, (⟨#[]⟩ : ByteArray)⟩ : S26), true, false⟩ : S28)] : List (S28))), (([(⟨(⟨#[105]⟩ : ByteArray), 1, (⟨2, 1, (⟨#[]⟩ : ByteArray)⟩ : S26), true, false⟩ : S28)] : List (S28)))] : List (List (S28)))) (([2, 2, 0, 1, 2, 0, 2, 1, 1, 1, 1, 0, 2, 2] : List Int)) 0 y102 2 2 1 (⟨#[]⟩ : ByteArray) 4 0 (⟨#[98]⟩ : ByteArray)) = some r := by first | (rw [hy109]; with_reducible exact H) | (have H2_ := (Option.bind_some _ _).symm.trans H; rw [hy109]; with_reducible exact H2_) | (have H2_ := (Option.bind_some _ _).symm.trans H; with_reducible exact H2_) | with_reducible exact H | (rw [hy109]; exact H) | exact H
  have Ny109 := Aside0.mk hy109
  clear hy109
  obtain ⟨y112, hy112⟩ : ∃ y_ : List (S28), y_ = (([(⟨(⟨#[105]⟩ : ByteArray), 1, (⟨2, 1, (⟨#[]⟩ : ByteArray)⟩ : S26), false, false⟩ : S28)] : List (S28))) := ⟨_, rfl⟩
  replace H : (rabbetlaw23_PredForms.l0 k y109 (([y112, (([(⟨(⟨#[105]⟩ : ByteArray), 3, (⟨1, 2, (⟨#[]⟩ : ByteArray)⟩ : S26), false, false⟩ : S28)] : List (S28))), (([(⟨(⟨#[105]⟩ : ByteArray), 2, (⟨2, 1, (⟨#[]⟩ : ByteArray)⟩ : S26), false, false⟩ : S28)] : List (S28))), (([(⟨(⟨#[116]⟩ : ByteArray), 1, (⟨4, 0, (⟨#[98]⟩ : ByteArray)⟩ : S26), false, false⟩ : S28)] : List (S28))), (([(⟨(⟨#[116]⟩ : ByteArray), 7, (⟨0, 0, (⟨#[]⟩ : ByteArray)⟩ : S26), false, false⟩ : S28)] : List (S28))), (([(⟨(⟨#[116]⟩ : ByteArray), 8, (⟨0, 0, (⟨#[]⟩ : ByteArray)⟩ : S26), false, false⟩ : S28)] : List (S28))), (([(⟨(⟨#[116]⟩ : ByteArray), 8, (⟨0, 0, (⟨#[]⟩ : ByteArray)⟩ : S26), false, true⟩ : S28)] : List (S28))), (([(⟨(⟨#[116]⟩ : ByteArray), 2, (⟨4, 0, (⟨#[98]⟩ : ByteArray)⟩ : S26), false, true⟩ : S28)] : List (S28))), (([(⟨(⟨#[105]⟩ : ByteArray), 1, (⟨0, 0, (⟨#[]⟩ : ByteArray)⟩ : S26), false, false⟩ : S28)] : List (S28))), (([(⟨(⟨#[105]⟩ : ByteArray), 1, (⟨1, 2, (⟨#[]⟩ : ByteArray)⟩ : S26), false, false⟩ : S28), (⟨(⟨#[116]⟩ : ByteArray), 1, (⟨4, 0, (⟨#[98]⟩ : ByteArray)⟩ : S26), true, false⟩ : S28)] : List (S28))), (([(⟨(⟨#[105]⟩ : ByteArray), 1, (⟨2, 1, (⟨#[]⟩ : ByteArray)⟩ : S26), false, false⟩ : S28), (⟨(⟨#[116]⟩ : ByteArray), 1, (⟨4, 0, (⟨#[98]⟩ : ByteArray)⟩ : S26), false, false⟩ : S28)] : List (S28))), (([(⟨(⟨#[105]⟩ : ByteArray), 1, (⟨1, 2, (⟨#[]⟩ : ByteArray)⟩ : S26), false, false⟩ : S28), (⟨(⟨#[116]⟩ : ByteArray), 1, (⟨4, 0, (⟨#[98]⟩ : ByteArray)⟩ : S26), false, false⟩ : S28)] : List (S28))), (([(⟨(⟨#[116]⟩ : ByteArray), 1, (⟨4, 0, (⟨#[98]⟩ : ByteArray)⟩ : S26), false, false⟩ : S28), (⟨(⟨#[105]⟩ : ByteArray), 1, (⟨1, 2, (⟨#[]⟩ : ByteArray)⟩ : S26), false, false⟩ : S28), (⟨(⟨#[105]⟩ : ByteArray), 1, (⟨2, 1, (⟨#[]⟩ : ByteArray)⟩ : S26), true, false⟩ : S28)] : List (S28))), (([(⟨(⟨#[105]⟩ : ByteArray), 1, (⟨2, 1, (⟨#[]⟩ : ByteArray)⟩ : S26), true, false⟩ : S28)] : List (S28)))] : List (List (S28)))) (([2, 2, 0, 1, 2, 0, 2, 1, 1, 1, 1, 0, 2, 2] : List Int)) 0 y102 2 2 1 (⟨#[]⟩ : ByteArray) 4 0 (⟨#[98]⟩ : ByteArray)) = some r := by first | (rw [hy112]; with_reducible exact H) | (have H2_ := (Option.bind_some _ _).symm.trans H; rw [hy112]; with_reducible exact H2_) | (have H2_ := (Option.bind_some _ _).symm.trans H; with_reducible exact H2_) | with_reducible exact H | (rw [hy112]; exact H) | exact H
  have Ny112 := Aside0.mk hy112
  clear hy112
  obtain ⟨y115, hy115⟩ : ∃ y_ : List (S28), y_ = (([(⟨(⟨#[105]⟩ : ByteArray), 3, (⟨1, 2, (⟨#[]⟩ : ByteArray)⟩ : S26), false, false⟩ : S28)] : List (S28))) := ⟨_, rfl⟩
  replace H : (rabbetlaw23_PredForms.l0 k y109 (([y112, y115, (([(⟨(⟨#[105]⟩ : ByteArray), 2, (⟨2, 1, (⟨#[]⟩ : ByteArray)⟩ : S26), false, false⟩ : S28)] : List (S28))), (([(⟨(⟨#[116]⟩ : ByteArray), 1, (⟨4, 0, (⟨#[98]⟩ : ByteArray)⟩ : S26), false, false⟩ : S28)] : List (S28))), (([(⟨(⟨#[116]⟩ : ByteArray), 7, (⟨0, 0, (⟨#[]⟩ : ByteArray)⟩ : S26), false, false⟩ : S28)] : List (S28))), (([(⟨(⟨#[116]⟩ : ByteArray), 8, (⟨0, 0, (⟨#[]⟩ : ByteArray)⟩ : S26), false, false⟩ : S28)] : List (S28))), (([(⟨(⟨#[116]⟩ : ByteArray), 8, (⟨0, 0, (⟨#[]⟩ : ByteArray)⟩ : S26), false, true⟩ : S28)] : List (S28))), (([(⟨(⟨#[116]⟩ : ByteArray), 2, (⟨4, 0, (⟨#[98]⟩ : ByteArray)⟩ : S26), false, true⟩ : S28)] : List (S28))), (([(⟨(⟨#[105]⟩ : ByteArray), 1, (⟨0, 0, (⟨#[]⟩ : ByteArray)⟩ : S26), false, false⟩ : S28)] : List (S28))), (([(⟨(⟨#[105]⟩ : ByteArray), 1, (⟨1, 2, (⟨#[]⟩ : ByteArray)⟩ : S26), false, false⟩ : S28), (⟨(⟨#[116]⟩ : ByteArray), 1, (⟨4, 0, (⟨#[98]⟩ : ByteArray)⟩ : S26), true, false⟩ : S28)] : List (S28))), (([(⟨(⟨#[105]⟩ : ByteArray), 1, (⟨2, 1, (⟨#[]⟩ : ByteArray)⟩ : S26), false, false⟩ : S28), (⟨(⟨#[116]⟩ : ByteArray), 1, (⟨4, 0, (⟨#[98]⟩ : ByteArray)⟩ : S26), false, false⟩ : S28)] : List (S28))), (([(⟨(⟨#[105]⟩ : ByteArray), 1, (⟨1, 2, (⟨#[]⟩ : ByteArray)⟩ : S26), false, false⟩ : S28), (⟨(⟨#[116]⟩ : ByteArray), 1, (⟨4, 0, (⟨#[98]⟩ : ByteArray)⟩ : S26), false, false⟩ : S28)] : List (S28))), (([(⟨(⟨#[116]⟩ : ByteArray), 1, (⟨4, 0, (⟨#[98]⟩ : ByteArray)⟩ : S26), false, false⟩ : S28), (⟨(⟨#[105]⟩ : ByteArray), 1, (⟨1, 2, (⟨#[]⟩ : ByteArray)⟩ : S26), false, false⟩ : S28), (⟨(⟨#[105]⟩ : ByteArray), 1, (⟨2, 1, (⟨#[]⟩ : ByteArray)⟩ : S26), true, false⟩ : S28)] : List (S28))), (([(⟨(⟨#[105]⟩ : ByteArray), 1, (⟨2, 1, (⟨#[]⟩ : ByteArray)⟩ : S26), true, false⟩ : S28)] : List (S28)))] : List (List (S28)))) (([2, 2, 0, 1, 2, 0, 2, 1, 1, 1, 1, 0, 2, 2] : List Int)) 0 y102 2 2 1 (⟨#[]⟩ : ByteArray) 4 0 (⟨#[98]⟩ : ByteArray)) = some r := by first | (rw [hy115]; with_reducible exact H) | (have H2_ := (Option.bind_some _ _).symm.trans H; rw [hy115]; with_reducible exact H2_) | (have H2_ := (Option.bind_some _ _).symm.trans H; with_reducible exact H2_) | with_reducible exact H | (rw [hy115]; exact H) | exact H
  have Ny115 := Aside0.mk hy115
  clear hy115
  obtain ⟨y118, hy118⟩ : ∃ y_ : List (S28), y_ = (([(⟨(⟨#[105]⟩ : ByteArray), 2, (⟨2, 1, (⟨#[]⟩ : ByteArray)⟩ : S26), false, false⟩ : S28)] : List (S28))) := ⟨_, rfl⟩
  replace H : (rabbetlaw23_PredForms.l0 k y109 (([y112, y115, y118, (([(⟨(⟨#[116]⟩ : ByteArray), 1, (⟨4, 0, (⟨#[98]⟩ : ByteArray)⟩ : S26), false, false⟩ : S28)] : List (S28))), (([(⟨(⟨#[116]⟩ : ByteArray), 7, (⟨0, 0, (⟨#[]⟩ : ByteArray)⟩ : S26), false, false⟩ : S28)] : List (S28))), (([(⟨(⟨#[116]⟩ : ByteArray), 8, (⟨0, 0, (⟨#[]⟩ : ByteArray)⟩ : S26), false, false⟩ : S28)] : List (S28))), (([(⟨(⟨#[116]⟩ : ByteArray), 8, (⟨0, 0, (⟨#[]⟩ : ByteArray)⟩ : S26), false, true⟩ : S28)] : List (S28))), (([(⟨(⟨#[116]⟩ : ByteArray), 2, (⟨4, 0, (⟨#[98]⟩ : ByteArray)⟩ : S26), false, true⟩ : S28)] : List (S28))), (([(⟨(⟨#[105]⟩ : ByteArray), 1, (⟨0, 0, (⟨#[]⟩ : ByteArray)⟩ : S26), false, false⟩ : S28)] : List (S28))), (([(⟨(⟨#[105]⟩ : ByteArray), 1, (⟨1, 2, (⟨#[]⟩ : ByteArray)⟩ : S26), false, false⟩ : S28), (⟨(⟨#[116]⟩ : ByteArray), 1, (⟨4, 0, (⟨#[98]⟩ : ByteArray)⟩ : S26), true, false⟩ : S28)] : List (S28))), (([(⟨(⟨#[105]⟩ : ByteArray), 1, (⟨2, 1, (⟨#[]⟩ : ByteArray)⟩ : S26), false, false⟩ : S28), (⟨(⟨#[116]⟩ : ByteArray), 1, (⟨4, 0, (⟨#[98]⟩ : ByteArray)⟩ : S26), false, false⟩ : S28)] : List (S28))), (([(⟨(⟨#[105]⟩ : ByteArray), 1, (⟨1, 2, (⟨#[]⟩ : ByteArray)⟩ : S26), false, false⟩ : S28), (⟨(⟨#[116]⟩ : ByteArray), 1, (⟨4, 0, (⟨#[98]⟩ : ByteArray)⟩ : S26), false, false⟩ : S28)] : List (S28))), (([(⟨(⟨#[116]⟩ : ByteArray), 1, (⟨4, 0, (⟨#[98]⟩ : ByteArray)⟩ : S26), false, false⟩ : S28), (⟨(⟨#[105]⟩ : ByteArray), 1, (⟨1, 2, (⟨#[]⟩ : ByteArray)⟩ : S26), false, false⟩ : S28), (⟨(⟨#[105]⟩ : ByteArray), 1, (⟨2, 1, (⟨#[]⟩ : ByteArray)⟩ : S26), true, false⟩ : S28)] : List (S28))), (([(⟨(⟨#[105]⟩ : ByteArray), 1, (⟨2, 1, (⟨#[]⟩ : ByteArray)⟩ : S26), true, false⟩ : S28)] : List (S28)))] : List (List (S28)))) (([2, 2, 0, 1, 2, 0, 2, 1, 1, 1, 1, 0, 2, 2] : List Int)) 0 y102 2 2 1 (⟨#[]⟩ : ByteArray) 4 0 (⟨#[98]⟩ : ByteArray)) = some r := by first | (rw [hy118]; with_reducible exact H) | (have H2_ := (Option.bind_some _ _).symm.trans H; rw [hy118]; with_reducible exact H2_) | (have H2_ := (Option.bind_some _ _).symm.trans H; with_reducible exact H2_) | with_reducible exact H | (rw [hy118]; exact H) | exact H
  have Ny118 := Aside0.mk hy118
  clear hy118
  obtain ⟨y121, hy121⟩ : ∃ y_ : List (S28), y_ = (([(⟨(⟨#[116]⟩ : ByteArray), 1, (⟨4, 0, (⟨#[98]⟩ : ByteArray)⟩ : S26), false, false⟩ : S28)] : List (S28))) := ⟨_, rfl⟩
  replace H : (rabbetlaw23_PredForms.l0 k y109 (([y112, y115, y118, y121, (([(⟨(⟨#[116]⟩ : ByteArray), 7, (⟨0, 0, (⟨#[]⟩ : ByteArray)⟩ : S26), false, false⟩ : S28)] : List (S28))), (([(⟨(⟨#[116]⟩ : ByteArray), 8, (⟨0, 0, (⟨#[]⟩ : ByteArray)⟩ : S26), false, false⟩ : S28)] : List (S28))), (([(⟨(⟨#[116]⟩ : ByteArray), 8, (⟨0, 0, (⟨#[]⟩ : ByteArray)⟩ : S26), false, true⟩ : S28)] : List (S28))), (([(⟨(⟨#[116]⟩ : ByteArray), 2, (⟨4, 0, (⟨#[98]⟩ : ByteArray)⟩ : S26), false, true⟩ : S28)] : List (S28))), (([(⟨(⟨#[105]⟩ : ByteArray), 1, (⟨0, 0, (⟨#[]⟩ : ByteArray)⟩ : S26), false, false⟩ : S28)] : List (S28))), (([(⟨(⟨#[105]⟩ : ByteArray), 1, (⟨1, 2, (⟨#[]⟩ : ByteArray)⟩ : S26), false, false⟩ : S28), (⟨(⟨#[116]⟩ : ByteArray), 1, (⟨4, 0, (⟨#[98]⟩ : ByteArray)⟩ : S26), true, false⟩ : S28)] : List (S28))), (([(⟨(⟨#[105]⟩ : ByteArray), 1, (⟨2, 1, (⟨#[]⟩ : ByteArray)⟩ : S26), false, false⟩ : S28), (⟨(⟨#[116]⟩ : ByteArray), 1, (⟨4, 0, (⟨#[98]⟩ : ByteArray)⟩ : S26), false, false⟩ : S28)] : List (S28))), (([(⟨(⟨#[105]⟩ : ByteArray), 1, (⟨1, 2, (⟨#[]⟩ : ByteArray)⟩ : S26), false, false⟩ : S28), (⟨(⟨#[116]⟩ : ByteArray), 1, (⟨4, 0, (⟨#[98]⟩ : ByteArray)⟩ : S26), false, false⟩ : S28)] : List (S28))), (([(⟨(⟨#[116]⟩ : ByteArray), 1, (⟨4, 0, (⟨#[98]⟩ : ByteArray)⟩ : S26), false, false⟩ : S28), (⟨(⟨#[105]⟩ : ByteArray), 1, (⟨1, 2, (⟨#[]⟩ : ByteArray)⟩ : S26), false, false⟩ : S28), (⟨(⟨#[105]⟩ : ByteArray), 1, (⟨2, 1, (⟨#[]⟩ : ByteArray)⟩ : S26), true, false⟩ : S28)] : List (S28))), (([(⟨(⟨#[105]⟩ : ByteArray), 1, (⟨2, 1, (⟨#[]⟩ : ByteArray)⟩ : S26), true, false⟩ : S28)] : List (S28)))] : List (List (S28)))) (([2, 2, 0, 1, 2, 0, 2, 1, 1, 1, 1, 0, 2, 2] : List Int)) 0 y102 2 2 1 (⟨#[]⟩ : ByteArray) 4 0 (⟨#[98]⟩ : ByteArray)) = some r := by first | (rw [hy121]; with_reducible exact H) | (have H2_ := (Option.bind_some _ _).symm.trans H; rw [hy121]; with_reducible exact H2_) | (have H2_ := (Option.bind_some _ _).symm.trans H; with_reducible exact H2_) | with_reducible exact H | (rw [hy121]; exact H) | exact H
  have Ny121 := Aside0.mk hy121
  clear hy121
  obtain ⟨y124, hy124⟩ : ∃ y_ : List (S28), y_ = (([(⟨(⟨#[116]⟩ : ByteArray), 7, (⟨0, 0, (⟨#[]⟩ : ByteArray)⟩ : S26), false, false⟩ : S28)] : List (S28))) := ⟨_, rfl⟩
  replace H : (rabbetlaw23_PredForms.l0 k y109 (([y112, y115, y118, y121, y124, (([(⟨(⟨#[116]⟩ : ByteArray), 8, (⟨0, 0, (⟨#[]⟩ : ByteArray)⟩ : S26), false, false⟩ : S28)] : List (S28))), (([(⟨(⟨#[116]⟩ : ByteArray), 8, (⟨0, 0, (⟨#[]⟩ : ByteArray)⟩ : S26), false, true⟩ : S28)] : List (S28))), (([(⟨(⟨#[116]⟩ : ByteArray), 2, (⟨4, 0, (⟨#[98]⟩ : ByteArray)⟩ : S26), false, true⟩ : S28)] : List (S28))), (([(⟨(⟨#[105]⟩ : ByteArray), 1, (⟨0, 0, (⟨#[]⟩ : ByteArray)⟩ : S26), false, false⟩ : S28)] : List (S28))), (([(⟨(⟨#[105]⟩ : ByteArray), 1, (⟨1, 2, (⟨#[]⟩ : ByteArray)⟩ : S26), false, false⟩ : S28), (⟨(⟨#[116]⟩ : ByteArray), 1, (⟨4, 0, (⟨#[98]⟩ : ByteArray)⟩ : S26), true, false⟩ : S28)] : List (S28))), (([(⟨(⟨#[105]⟩ : ByteArray), 1, (⟨2, 1, (⟨#[]⟩ : ByteArray)⟩ : S26), false, false⟩ : S28), (⟨(⟨#[116]⟩ : ByteArray), 1, (⟨4, 0, (⟨#[98]⟩ : ByteArray)⟩ : S26), false, false⟩ : S28)] : List (S28))), (([(⟨(⟨#[105]⟩ : ByteArray), 1, (⟨1, 2, (⟨#[]⟩ : ByteArray)⟩ : S26), false, false⟩ : S28), (⟨(⟨#[116]⟩ : ByteArray), 1, (⟨4, 0, (⟨#[98]⟩ : ByteArray)⟩ : S26), false, false⟩ : S28)] : List (S28))), (([(⟨(⟨#[116]⟩ : ByteArray), 1, (⟨4, 0, (⟨#[98]⟩ : ByteArray)⟩ : S26), false, false⟩ : S28), (⟨(⟨#[105]⟩ : ByteArray), 1, (⟨1, 2, (⟨#[]⟩ : ByteArray)⟩ : S26), false, false⟩ : S28), (⟨(⟨#[105]⟩ : ByteArray), 1, (⟨2, 1, (⟨#[]⟩ : ByteArray)⟩ : S26), true, false⟩ : S28)] : List (S28))), (([(⟨(⟨#[105]⟩ : ByteArray), 1, (⟨2, 1, (⟨#[]⟩ : ByteArray)⟩ : S26), true, false⟩ : S28)] : List (S28)))] : List (List (S28)))) (([2, 2, 0, 1, 2, 0, 2, 1, 1, 1, 1, 0, 2, 2] : List Int)) 0 y102 2 2 1 (⟨#[]⟩ : ByteArray) 4 0 (⟨#[98]⟩ : ByteArray)) = some r := by first | (rw [hy124]; with_reducible exact H) | (have H2_ := (Option.bind_some _ _).symm.trans H; rw [hy124]; with_reducible exact H2_) | (have H2_ := (Option.bind_some _ _).symm.trans H; with_reducible exact H2_) | with_reducible exact H | (rw [hy124]; exact H) | exact H
  have Ny124 := Aside0.mk hy124
  clear hy124
  obtain ⟨y127, hy127⟩ : ∃ y_ : List (S28), y_ = (([(⟨(⟨#[116]⟩ : ByteArray), 8, (⟨0, 0, (⟨#[]⟩ : ByteArray)⟩ : S26), false, false⟩ : S28)] : List (S28))) := ⟨_, rfl⟩
  replace H : (rabbetlaw23_PredForms.l0 k y109 (([y112, y115, y118, y121, y124, y127, (([(⟨(⟨#[116]⟩ : ByteArray), 8, (⟨0, 0, (⟨#[]⟩ : ByteArray)⟩ : S26), false, true⟩ : S28)] : List (S28))), (([(⟨(⟨#[116]⟩ : ByteArray), 2, (⟨4, 0, (⟨#[98]⟩ : ByteArray)⟩ : S26), false, true⟩ : S28)] : List (S28))), (([(⟨(⟨#[105]⟩ : ByteArray), 1, (⟨0, 0, (⟨#[]⟩ : ByteArray)⟩ : S26), false, false⟩ : S28)] : List (S28))), (([(⟨(⟨#[105]⟩ : ByteArray), 1, (⟨1, 2, (⟨#[]⟩ : ByteArray)⟩ : S26), false, false⟩ : S28), (⟨(⟨#[116]⟩ : ByteArray), 1, (⟨4, 0, (⟨#[98]⟩ : ByteArray)⟩ : S26), true, false⟩ : S28)] : List (S28))), (([(⟨(⟨#[105]⟩ : ByteArray), 1, (⟨2, 1, (⟨#[]⟩ : ByteArray)⟩ : S26), false, false⟩ : S28), (⟨(⟨#[116]⟩ : ByteArray), 1, (⟨4, 0, (⟨#[98]⟩ : ByteArray)⟩ : S26), false, false⟩ : S28)] : List (S28))), (([(⟨(⟨#[105]⟩ : ByteArray), 1, (⟨1, 2, (⟨#[]⟩ : ByteArray)⟩ : S26), false, false⟩ : S28), (⟨(⟨#[116]⟩ : ByteArray), 1, (⟨4, 0, (⟨#[98]⟩ : ByteArray)⟩ : S26), false, false⟩ : S28)] : List (S28))), (([(⟨(⟨#[116]⟩ : ByteArray), 1, (⟨4, 0, (⟨#[98]⟩ : ByteArray)⟩ : S26), false, false⟩ : S28), (⟨(⟨#[105]⟩ : ByteArray), 1, (⟨1, 2, (⟨#[]⟩ : ByteArray)⟩ : S26), false, false⟩ : S28), (⟨(⟨#[105]⟩ : ByteArray), 1, (⟨2, 1, (⟨#[]⟩ : ByteArray)⟩ : S26), true, false⟩ : S28)] : List (S28))), (([(⟨(⟨#[105]⟩ : ByteArray), 1, (⟨2, 1, (⟨#[]⟩ : ByteArray)⟩ : S26), true, false⟩ : S28)] : List (S28)))] : List (List (S28)))) (([2, 2, 0, 1, 2, 0, 2, 1, 1, 1, 1, 0, 2, 2] : List Int)) 0 y102 2 2 1 (⟨#[]⟩ : ByteArray) 4 0 (⟨#[98]⟩ : ByteArray)) = some r := by first | (rw [hy127]; with_reducible exact H) | (have H2_ := (Option.bind_some _ _).symm.trans H; rw [hy127]; with_reducible exact H2_) | (have H2_ := (Option.bind_some _ _).symm.trans H; with_reducible exact H2_) | with_reducible exact H | (rw [hy127]; exact H) | exact H
  have Ny127 := Aside0.mk hy127
  clear hy127
  obtain ⟨y130, hy130⟩ : ∃ y_ : List (S28), y_ = (([(⟨(⟨#[116]⟩ : ByteArray), 8, (⟨0, 0, (⟨#[]⟩ : ByteArray)⟩ : S26), false, true⟩ : S28)] : List (S28))) := ⟨_, rfl⟩
  replace H : (rabbetlaw23_PredForms.l0 k y109 (([y112, y115, y118, y121, y124, y127, y130, (([(⟨(⟨#[116]⟩ : ByteArray), 2, (⟨4, 0, (⟨#[98]⟩ : ByteArray)⟩ : S26), false, true⟩ : S28)] : List (S28))), (([(⟨(⟨#[105]⟩ : ByteArray), 1, (⟨0, 0, (⟨#[]⟩ : ByteArray)⟩ : S26), false, false⟩ : S28)] : List (S28))), (([(⟨(⟨#[105]⟩ : ByteArray), 1, (⟨1, 2, (⟨#[]⟩ : ByteArray)⟩ : S26), false, false⟩ : S28), (⟨(⟨#[116]⟩ : ByteArray), 1, (⟨4, 0, (⟨#[98]⟩ : ByteArray)⟩ : S26), true, false⟩ : S28)] : List (S28))), (([(⟨(⟨#[105]⟩ : ByteArray), 1, (⟨2, 1, (⟨#[]⟩ : ByteArray)⟩ : S26), false, false⟩ : S28), (⟨(⟨#[116]⟩ : ByteArray), 1, (⟨4, 0, (⟨#[98]⟩ : ByteArray)⟩ : S26), false, false⟩ : S28)] : List (S28))), (([(⟨(⟨#[105]⟩ : ByteArray), 1, (⟨1, 2, (⟨#[]⟩ : ByteArray)⟩ : S26), false, false⟩ : S28), (⟨(⟨#[116]⟩ : ByteArray), 1, (⟨4, 0, (⟨#[98]⟩ : ByteArray)⟩ : S26), false, false⟩ : S28)] : List (S28))), (([(⟨(⟨#[116]⟩ : ByteArray), 1, (⟨4, 0, (⟨#[98]⟩ : ByteArray)⟩ : S26), false, false⟩ : S28), (⟨(⟨#[105]⟩ : ByteArray), 1, (⟨1, 2, (⟨#[]⟩ : ByteArray)⟩ : S26), false, false⟩ : S28), (⟨(⟨#[105]⟩ : ByteArray), 1, (⟨2, 1, (⟨#[]⟩ : ByteArray)⟩ : S26), true, false⟩ : S28)] : List (S28))), (([(⟨(⟨#[105]⟩ : ByteArray), 1, (⟨2, 1, (⟨#[]⟩ : ByteArray)⟩ : S26), true, false⟩ : S28)] : List (S28)))] : List (List (S28)))) (([2, 2, 0, 1, 2, 0, 2, 1, 1, 1, 1, 0, 2, 2] : List Int)) 0 y102 2 2 1 (⟨#[]⟩ : ByteArray) 4 0 (⟨#[98]⟩ : ByteArray)) = some r := by first | (rw [hy130]; with_reducible exact H) | (have H2_ := (Option.bind_some _ _).symm.trans H; rw [hy130]; with_reducible exact H2_) | (have H2_ := (Option.bind_some _ _).symm.trans H; with_reducible exact H2_) | with_reducible exact H | (rw [hy130]; exact H) | exact H
  have Ny130 := Aside0.mk hy130
  clear hy130
  obtain ⟨y133, hy133⟩ : ∃ y_ : List (S28), y_ = (([(⟨(⟨#[116]⟩ : ByteArray), 2, (⟨4, 0, (⟨#[98]⟩ : ByteArray)⟩ : S26), false, true⟩ : S28)] : List (S28))) := ⟨_, rfl⟩
  replace H : (rabbetlaw23_PredForms.l0 k y109 (([y112, y115, y118, y121, y124, y127, y130, y133, (([(⟨(⟨#[105]⟩ : ByteArray), 1, (⟨0, 0, (⟨#[]⟩ : ByteArray)⟩ : S26), false, false⟩ : S28)] : List (S28))), (([(⟨(⟨#[105]⟩ : ByteArray), 1, (⟨1, 2, (⟨#[]⟩ : ByteArray)⟩ : S26), false, false⟩ : S28), (⟨(⟨#[116]⟩ : ByteArray), 1, (⟨4, 0, (⟨#[98]⟩ : ByteArray)⟩ : S26), true, false⟩ : S28)] : List (S28))), (([(⟨(⟨#[105]⟩ : ByteArray), 1, (⟨2, 1, (⟨#[]⟩ : ByteArray)⟩ : S26), false, false⟩ : S28), (⟨(⟨#[116]⟩ : ByteArray), 1, (⟨4, 0, (⟨#[98]⟩ : ByteArray)⟩ : S26), false, false⟩ : S28)] : List (S28))), (([(⟨(⟨#[105]⟩ : ByteArray), 1, (⟨1, 2, (⟨#[]⟩ : ByteArray)⟩ : S26), false, false⟩ : S28), (⟨(⟨#[116]⟩ : ByteArray), 1, (⟨4, 0, (⟨#[98]⟩ : ByteArray)⟩ : S26), false, false⟩ : S28)] : List (S28))), (([(⟨(⟨#[116]⟩ : ByteArray), 1, (⟨4, 0, (⟨#[98]⟩ : ByteArray)⟩ : S26), false, false⟩ : S28), (⟨(⟨#[105]⟩ : ByteArray), 1, (⟨1, 2, (⟨#[]⟩ : ByteArray)⟩ : S26), false, false⟩ : S28), (⟨(⟨#[105]⟩ : ByteArray), 1, (⟨2, 1, (⟨#[]⟩ : ByteArray)⟩ : S26), true, false⟩ : S28)] : List (S28))), (([(⟨(⟨#[105]⟩ : ByteArray), 1, (⟨2, 1, (⟨#[]⟩ : ByteArray)⟩ : S26), true, false⟩ : S28)] : List (S28)))] : List (List (S28)))) (([2, 2, 0, 1, 2, 0, 2, 1, 1, 1, 1, 0, 2, 2] : List Int)) 0 y102 2 2 1 (⟨#[]⟩ : ByteArray) 4 0 (⟨#[98]⟩ : ByteArray)) = some r := by first | (rw [hy133]; with_reducible exact H) | (have H2_ := (Option.bind_some _ _).symm.trans H; rw [hy133]; with_reducible exact H2_) | (have H2_ := (Option.bind_some _ _).symm.trans H; with_reducible exact H2_) | with_reducible exact H | (rw [hy133]; exact H) | exact H
  have Ny133 := Aside0.mk hy133
  clear hy133
  obtain ⟨y136, hy136⟩ : ∃ y_ : List (S28), y_ = (([(⟨(⟨#[105]⟩ : ByteArray), 1, (⟨0, 0, (⟨#[]⟩ : ByteArray)⟩ : S26), false, false⟩ : S28)] : List (S28))) := ⟨_, rfl⟩
  replace H : (rabbetlaw23_PredForms.l0 k y109 (([y112, y115, y118, y121, y124, y127, y130, y133, y136, (([(⟨(⟨#[105]⟩ : ByteArray), 1, (⟨1, 2, (⟨#[]⟩ : ByteArray)⟩ : S26), false, false⟩ : S28), (⟨(⟨#[116]⟩ : ByteArray), 1, (⟨4, 0, (⟨#[98]⟩ : ByteArray)⟩ : S26), true, false⟩ : S28)] : List (S28))), (([(⟨(⟨#[105]⟩ : ByteArray), 1, (⟨2, 1, (⟨#[]⟩ : ByteArray)⟩ : S26), false, false⟩ : S28), (⟨(⟨#[116]⟩ : ByteArray), 1, (⟨4, 0, (⟨#[98]⟩ : ByteArray)⟩ : S26), false, false⟩ : S28)] : List (S28))), (([(⟨(⟨#[105]⟩ : ByteArray), 1, (⟨1, 2, (⟨#[]⟩ : ByteArray)⟩ : S26), false, false⟩ : S28), (⟨(⟨#[116]⟩ : ByteArray), 1, (⟨4, 0, (⟨#[98]⟩ : ByteArray)⟩ : S26), false, false⟩ : S28)] : List (S28))), (([(⟨(⟨#[116]⟩ : ByteArray), 1, (⟨4, 0, (⟨#[98]⟩ : ByteArray)⟩ : S26), false, false⟩ : S28), (⟨(⟨#[105]⟩ : ByteArray), 1, (⟨1, 2, (⟨#[]⟩ : ByteArray)⟩ : S26), false, false⟩ : S28), (⟨(⟨#[105]⟩ : ByteArray), 1, (⟨2, 1, (⟨#[]⟩ : ByteArray)⟩ : S26), true, false⟩ : S28)] : List (S28))), (([(⟨(⟨#[105]⟩ : ByteArray), 1, (⟨2, 1, (⟨#[]⟩ : ByteArray)⟩ : S26), true, false⟩ : S28)] : List (S28)))] : List (List (S28)))) (([2, 2, 0, 1, 2, 0, 2, 1, 1, 1, 1, 0, 2, 2] : List Int)) 0 y102 2 2 1 (⟨#[]⟩ : ByteArray) 4 0 (⟨#[98]⟩ : ByteArray)) = some r := by first | (rw [hy136]; with_reducible exact H) | (have H2_ := (Option.bind_some _ _).symm.trans H; rw [hy136]; with_reducible exact H2_) | (have H2_ := (Option.bind_some _ _).symm.trans H; with_reducible exact H2_) | with_reducible exact H | (rw [hy136]; exact H) | exact H
  have Ny136 := Aside0.mk hy136
  clear hy136
  obtain ⟨y139, hy139⟩ : ∃ y_ : List (S28), y_ = (([(⟨(⟨#[105]⟩ : ByteArray), 1, (⟨1, 2, (⟨#[]⟩ : ByteArray)⟩ : S26), false, false⟩ : S28), (⟨(⟨#[116]⟩ : ByteArray), 1, (⟨4, 0, (⟨#[98]⟩ : ByteArray)⟩ : S26), true, false⟩ : S28)] : List (S28))) := ⟨_, rfl⟩
  replace H : (rabbetlaw23_PredForms.l0 k y109 (([y112, y115, y118, y121, y124, y127, y130, y133, y136, y139, (([(⟨(⟨#[105]⟩ : ByteArray), 1, (⟨2, 1, (⟨#[]⟩ : ByteArray)⟩ : S26), false, false⟩ : S28), (⟨(⟨#[116]⟩ : ByteArray), 1, (⟨4, 0, (⟨#[98]⟩ : ByteArray)⟩ : S26), false, false⟩ : S28)] : List (S28))), (([(⟨(⟨#[105]⟩ : ByteArray), 1, (⟨1, 2, (⟨#[]⟩ : ByteArray)⟩ : S26), false, false⟩ : S28), (⟨(⟨#[116]⟩ : ByteArray), 1, (⟨4, 0, (⟨#[98]⟩ : ByteArray)⟩ : S26), false, false⟩ : S28)] : List (S28))), (([(⟨(⟨#[116]⟩ : ByteArray), 1, (⟨4, 0, (⟨#[98]⟩ : ByteArray)⟩ : S26), false, false⟩ : S28), (⟨(⟨#[105]⟩ : ByteArray), 1, (⟨1, 2, (⟨#[]⟩ : ByteArray)⟩ : S26), false, false⟩ : S28), (⟨(⟨#[105]⟩ : ByteArray), 1, (⟨2, 1, (⟨#[]⟩ : ByteArray)⟩ : S26), true, false⟩ : S28)] : List (S28))), (([(⟨(⟨#[105]⟩ : ByteArray), 1, (⟨2, 1, (⟨#[]⟩ : ByteArray)⟩ : S26), true, false⟩ : S28)] : List (S28)))] : List (List (S28)))) (([2, 2, 0, 1, 2, 0, 2, 1, 1, 1, 1, 0, 2, 2] : List Int)) 0 y102 2 2 1 (⟨#[]⟩ : ByteArray) 4 0 (⟨#[98]⟩ : ByteArray)) = some r := by first | (rw [hy139]; with_reducible exact H) | (have H2_ := (Option.bind_some _ _).symm.trans H; rw [hy139]; with_reducible exact H2_) | (have H2_ := (Option.bind_some _ _).symm.trans H; with_reducible exact H2_) | with_reducible exact H | (rw [hy139]; exact H) | exact H
  have Ny139 := Aside0.mk hy139
  clear hy139
  obtain ⟨y142, hy142⟩ : ∃ y_ : List (S28), y_ = (([(⟨(⟨#[105]⟩ : ByteArray), 1, (⟨2, 1, (⟨#[]⟩ : ByteArray)⟩ : S26), false, false⟩ : S28), (⟨(⟨#[116]⟩ : ByteArray), 1, (⟨4, 0, (⟨#[98]⟩ : ByteArray)⟩ : S26), false, false⟩ : S28)] : List (S28))) := ⟨_, rfl⟩
  replace H : (rabbetlaw23_PredForms.l0 k y109 (([y112, y115, y118, y121, y124, y127, y130, y133, y136, y139, y142, (([(⟨(⟨#[105]⟩ : ByteArray), 1, (⟨1, 2, (⟨#[]⟩ : ByteArray)⟩ : S26), false, false⟩ : S28), (⟨(⟨#[116]⟩ : ByteArray), 1, (⟨4, 0, (⟨#[98]⟩ : ByteArray)⟩ : S26), false, false⟩ : S28)] : List (S28))), (([(⟨(⟨#[116]⟩ : ByteArray), 1, (⟨4, 0, (⟨#[98]⟩ : ByteArray)⟩ : S26), false, false⟩ : S28), (⟨(⟨#[105]⟩ : ByteArray), 1, (⟨1, 2, (⟨#[]⟩ : ByteArray)⟩ : S26), false, false⟩ : S28), (⟨(⟨#[105]⟩ : ByteArray), 1, (⟨2, 1, (⟨#[]⟩ : ByteArray)⟩ : S26), true, false⟩ : S28)] : List (S28))), (([(⟨(⟨#[105]⟩ : ByteArray), 1, (⟨2, 1, (⟨#[]⟩ : ByteArray)⟩ : S26), true, false⟩ : S28)] : List (S28)))] : List (List (S28)))) (([2, 2, 0, 1, 2, 0, 2, 1, 1, 1, 1, 0, 2, 2] : List Int)) 0 y102 2 2 1 (⟨#[]⟩ : ByteArray) 4 0 (⟨#[98]⟩ : ByteArray)) = some r := by first | (rw [hy142]; with_reducible exact H) | (have H2_ := (Option.bind_some _ _).symm.trans H; rw [hy142]; with_reducible exact H2_) | (have H2_ := (Option.bind_some _ _).symm.trans H; with_reducible exact H2_) | with_reducible exact H | (rw [hy142]; exact H) | exact H
  have Ny142 := Aside0.mk hy142
  clear hy142
  obtain ⟨y145, hy145⟩ : ∃ y_ : List (S28), y_ = (([(⟨(⟨#[105]⟩ : ByteArray), 1, (⟨1, 2, (⟨#[]⟩ : ByteArray)⟩ : S26), false, false⟩ : S28), (⟨(⟨#[116]⟩ : ByteArray), 1, (⟨4, 0, (⟨#[98]⟩ : ByteArray)⟩ : S26), false, false⟩ : S28)] : List (S28))) := ⟨_, rfl⟩
  replace H : (rabbetlaw23_PredForms.l0 k y109 (([y112, y115, y118, y121, y124, y127, y130, y133, y136, y139, y142, y145, (([(⟨(⟨#[116]⟩ : ByteArray), 1, (⟨4, 0, (⟨#[98]⟩ : ByteArray)⟩ : S26), false, false⟩ : S28), (⟨(⟨#[105]⟩ : ByteArray), 1, (⟨1, 2, (⟨#[]⟩ : ByteArray)⟩ : S26), false, false⟩ : S28), (⟨(⟨#[105]⟩ : ByteArray), 1, (⟨2, 1, (⟨#[]⟩ : ByteArray)⟩ : S26), true, false⟩ : S28)] : List (S28))), (([(⟨(⟨#[105]⟩ : ByteArray), 1, (⟨2, 1, (⟨#[]⟩ : ByteArray)⟩ : S26), true, false⟩ : S28)] : List (S28)))] : List (List (S28)))) (([2, 2, 0, 1, 2, 0, 2, 1, 1, 1, 1, 0, 2, 2] : List Int)) 0 y102 2 2 1 (⟨#[]⟩ : ByteArray) 4 0 (⟨#[98]⟩ : ByteArray)) = some r := by first | (rw [hy145]; with_reducible exact H) | (have H2_ := (Option.bind_some _ _).symm.trans H; rw [hy145]; with_reducible exact H2_) | (have H2_ := (Option.bind_some _ _).symm.trans H; with_reducible exact H2_) | with_reducible exact H | (rw [hy145]; exact H) | exact H
  have Ny145 := Aside0.mk hy145
  clear hy145
  obtain ⟨y148, hy148⟩ : ∃ y_ : List (S28), y_ = (([(⟨(⟨#[116]⟩ : ByteArray), 1, (⟨4, 0, (⟨#[98]⟩ : ByteArray)⟩ : S26), false, false⟩ : S28), (⟨(⟨#[105]⟩ : ByteArray), 1, (⟨1, 2, (⟨#[]⟩ : ByteArray)⟩ : S26), false, false⟩ : S28), (⟨(⟨#[105]⟩ : ByteArray), 1, (⟨2, 1, (⟨#[]⟩ : ByteArray)⟩ : S26), true, false⟩ : S28)] : List (S28))) := ⟨_, rfl⟩
  replace H : (rabbetlaw23_PredForms.l0 k y109 (([y112, y115, y118, y121, y124, y127, y130, y133, y136, y139, y142, y145, y148, (([(⟨(⟨#[105]⟩ : ByteArray), 1, (⟨2, 1, (⟨#[]⟩ : ByteArray)⟩ : S26), true, false⟩ : S28)] : List (S28)))] : List (List (S28)))) (([2, 2, 0, 1, 2, 0, 2, 1, 1, 1, 1, 0, 2, 2] : List Int)) 0 y102 2 2 1 (⟨#[]⟩ : ByteArray) 4 0 (⟨#[98]⟩ : ByteArray)) = some r := by first | (rw [hy148]; with_reducible exact H) | (have H2_ := (Option.bind_some _ _).symm.trans H; rw [hy148]; with_reducible exact H2_) | (have H2_ := (Option.bind_some _ _).symm.trans H; with_reducible exact H2_) | with_reducible exact H | (rw [hy148]; exact H) | exact H
  have Ny148 := Aside0.mk hy148
  clear hy148
  obtain ⟨y151, hy151⟩ : ∃ y_ : List (S28), y_ = (([(⟨(⟨#[105]⟩ : ByteArray), 1, (⟨2, 1, (⟨#[]⟩ : ByteArray)⟩ : S26), true, false⟩ : S28)] : List (S28))) := ⟨_, rfl⟩
  replace H : (rabbetlaw23_PredForms.l0 k y109 (([y112, y115, y118, y121, y124, y127, y130, y133, y136, y139, y142, y145, y148, y151] : List (List (S28)))) (([2, 2, 0, 1, 2, 0, 2, 1, 1, 1, 1, 0, 2, 2] : List Int)) 0 y102 2 2 1 (⟨#[]⟩ : ByteArray) 4 0 (⟨#[98]⟩ : ByteArray)) = some r := by first | (rw [hy151]; with_reducible exact H) | (have H2_ := (Option.bind_some _ _).symm.trans H; rw [hy151]; with_reducible exact H2_) | (have H2_ := (Option.bind_some _ _).symm.trans H; with_reducible exact H2_) | with_reducible exact H | (rw [hy151]; exact H) | exact H
  have Ny151 := Aside0.mk hy151
  clear hy151
  obtain ⟨y154, hy154⟩ : ∃ y_ : List (List (S28)), y_ = (([y112, y115, y118, y121, y124, y127, y130, y133, y136, y139, y142, y145, y148, y151] : List (List (S28)))) := ⟨_, rfl⟩
  replace H : (rabbetlaw23_PredForms.l0 k y109 y154 (([2, 2, 0, 1, 2, 0, 2, 1, 1, 1, 1, 0, 2, 2] : List Int)) 0 y102 2 2 1 (⟨#[]⟩ : ByteArray) 4 0 (⟨#[98]⟩ : ByteArray)) = some r := by first | (rw [hy154]; with_reducible exact H) | (have H2_ := (Option.bind_some _ _).symm.trans H; rw [hy154]; with_reducible exact H2_) | (have H2_ := (Option.bind_some _ _).symm.trans H; with_reducible exact H2_) | with_reducible exact H | (rw [hy154]; exact H) | exact H
  have Ny154 := Aside0.mk hy154
  clear hy154
  obtain ⟨y157, hy157⟩ : ∃ y_ : List Int, y_ = (([2, 2, 0, 1, 2, 0, 2, 1, 1, 1, 1, 0, 2, 2] : List Int)) := ⟨_, rfl⟩
  replace H : (rabbetlaw23_PredForms.l0 k y109 y154 y157 0 y102 2 2 1 (⟨#[]⟩ : ByteArray) 4 0 (⟨#[98]⟩ : ByteArray)) = some r := by first | (rw [hy157]; with_reducible exact H) | (have H2_ := (Option.bind_some _ _).symm.trans H; rw [hy157]; with_reducible exact H2_) | (have H2_ := (Option.bind_some _ _).symm.trans H; with_reducible exact H2_) | with_reducible exact H | (rw [hy157]; exact H) | exact H
  have Ny157 := Aside0.mk hy157
  clear hy157
  have H' := Aside0.mk H
  clear H
  go_enter Try.func5, Try.ntmps5
  go_wp2_with (first | ((with_reducible refine gate_callee (f := 7) rfl ?_); refine goesL_ (some 12) rfl rfl Try.func7 (by kernel_rfl) rfl #[] rfl (by (try simp only [List.map_toArray, List.map_cons, List.map_nil]); first | done | rfl | (simp only [List.length_drop, List.length_take]; rfl)) ?_; (with_reducible refine (rabbetlaw23_begun.calls k  true _ A1.out).mono ?_); rintro e w3 ⟨rfl, hb⟩; refine ⟨_, rfl, ?_⟩; have n0_ := qS HB hb; clear HB; have HB := n0_; clear n0_; (try clear hb); (try clear hb2); (try clear hk); (try clear hi)) | ((with_reducible refine gate_dst (N := 16) rfl ?_); refine Kd.R_lit k64 _ 64 ?hg (N := 16) ?hd (xs := ([(⟨1, (⟨#[105]⟩ : ByteArray), 2⟩ : S64), (⟨2, (⟨#[116]⟩ : ByteArray), 4⟩ : S64)] : List (S64))) (inner := [.int .i64 1, .string (⟨#[105]⟩ : ByteArray), .int .i64 2, .int .i64 2, .string (⟨#[116]⟩ : ByteArray), .int .i64 4]) (ok := fun _ => True) (okp := fun _ => True) ?hr ?hp (fun _ hk => hk) trivial (Below.refl _ _) (Nat.le_refl _) (by simp) ?_; (case hd => rfl); (case hg => rfl); (case hr => first | (go_simp; done) | (go_simp; rfl)); (case hp => exact (Reps.c3 (show Kd.M k64 _ _ _ (⟨1, (⟨#[105]⟩ : ByteArray), 2⟩ : S64) [.int .i64 1, .string (⟨#[105]⟩ : ByteArray), .int .i64 2] from (k64_mkM _ _ _ (⟨1, (⟨#[105]⟩ : ByteArray), 2⟩ : S64) )) (Reps.c3 (show Kd.M k64 _ _ _ (⟨2, (⟨#[116]⟩ : ByteArray), 4⟩ : S64) [.int .i64 2, .string (⟨#[116]⟩ : ByteArray), .int .i64 4] from (k64_mkM _ _ _ (⟨2, (⟨#[116]⟩ : ByteArray), 4⟩ : S64) )) (Reps.none _ _)))); intro v103 w4 ho5 hb hg_ hnew_; clear hg_ hnew_; (first | rw [← Ny102.out] at ho5 | (simp only [Int.reduceToNat] at ho5; rw [← Ny102.out] at ho5)); have n0_ := Aside0.mk (Kd.R_lower ho5 (qZ HB)); have n1_ := qS HB hb; clear HB; have HO104 := n0_; have HB := n1_; clear n0_ n1_; clear hb ho5; obtain ⟨Ao6, co6, eo6⟩ := Kd.R_slice HO104.out; subst eo6) | ((with_reducible refine gate_dst (N := 1) rfl ?_); refine box_event ?hg (N := 1) ?hd (cs := #[.slice none 0 0, .int .i64 0]) (t := 33) ?hr ?_; (case hd => rfl); (case hg => rfl); (case hr => first | (go_simp; done) | (go_simp; rfl)); intro gb105 hg w7 hbox hb; have n0_ := qR HO104 hb; have n1_ := qS HB hb; have n2_ := Aside0.mk (hbox); have n3_ := Aside0.mk ((by rw [hg]; exact (qZ HB) : w.heap.size ≤ gb105)); have n4_ := Aside0.mk ((by rw [hg]; exact (qZ HB) : w.heap.size ≤ gb105)); clear HO104; clear HB; have HO104 := n0_; have HB := n1_; have BK105 := n2_; have GW105 := n3_; have GE105 := n4_; clear n0_ n1_ n2_ n3_ n4_; clear hb hbox hg; have hcz8_0 : w7.cell? ⟨gb105, 0, none⟩ = some (.slice none 0 0) := (blk_cell BK105.out 0).trans rfl; have hcz8_1 : w7.cell? ⟨gb105, 1, none⟩ = some (.int .i64 0) := (blk_cell BK105.out 1).trans rfl; have hfz8_0 := blk_frozen BK105.out 0; have hfz8_1 := blk_frozen BK105.out 1) | ((with_reducible refine gate_dst (N := 2) rfl ?_); refine box_event ?hg (N := 2) ?hd (cs := #[.int .i64 0, .int .i64 0, .string (⟨#[]⟩ : ByteArray)]) (t := 26) ?hr ?_; (case hd => rfl); (case hg => rfl); (case hr => first | (go_simp; done) | (go_simp; rfl)); intro gb106 hg w9 hbox hb; have n0_ := Aside0.mk (Kd.R_below (by (with_reducible repeat (first | apply Kd.R_alloc | apply Kd.R_drewN | apply Kd.R_drew)); exact (Kd.R_mono (Kd.R_far (p := ⟨gb105, 1, none⟩) (Kd.R_far (p := ⟨gb105, 0, none⟩) (Kd.R_types HO104.out BK105.out (by decide)) (fun _ hk => hk.2) (.slice Ao6 y102.length co6)) (fun _ hk => hk.2) (.int .i64 2)) (fun _ h_ => h_.1))) hb); have n1_ := Aside0.mk (blk_below (g := gb105) (o := .cells #[.slice Ao6 y102.length co6, .int .i64 2] 33 (0, 0)) (by (with_reducible repeat (first | refine blk_drewN ?_ _ | refine blk_drew ?_ | refine blk_alloc ?_ _)); refine blk_put (cs := #[.slice Ao6 y102.length co6, .int .i64 0]) ?_ 1 _ rfl; (with_reducible repeat (first | refine blk_drewN ?_ _ | refine blk_drew ?_ | refine blk_alloc ?_ _)); refine blk_put (cs := #[.slice none 0 0, .int .i64 0]) ?_ 0 _ rfl; (with_reducible repeat (first | refine blk_drewN ?_ _ | refine blk_drew ?_ | refine blk_alloc ?_ _)); exact BK105.out) hb); have n2_ := qS HB hb; have n3_ := Aside0.mk (hbox); have n4_ := Aside0.mk ((by rw [hg]; exact (qZ HB) : w.heap.size ≤ gb106)); have n5_ := Aside0.mk ((by rw [hg]; exact (qZ HB) : w.heap.size ≤ gb106)); have n6_ := Aside0.mk ((by rw [hg]; exact Nat.ne_of_lt (blk_lt (g := gb105) (o := .cells #[.slice Ao6 y102.length co6, .int .i64 2] 33 (0, 0)) (by (with_reducible repeat (first | refine blk_drewN ?_ _ | refine blk_drew ?_ | refine blk_alloc ?_ _)); refine blk_put (cs := #[.slice Ao6 y102.length co6, .int .i64 0]) ?_ 1 _ rfl; (with_reducible repeat (first | refine blk_drewN ?_ _ | refine blk_drew ?_ | refine blk_alloc ?_ _)); refine blk_put (cs := #[.slice none 0 0, .int .i64 0]) ?_ 0 _ rfl; (with_reducible repeat (first | refine blk_drewN ?_ _ | refine blk_drew ?_ | refine blk_alloc ?_ _)); exact BK105.out)) : gb105 ≠ gb106)); have n7_ := Aside0.mk ((by rw [hg]; exact Nat.ne_of_gt (blk_lt (g := gb105) (o := .cells #[.slice Ao6 y102.length co6, .int .i64 2] 33 (0, 0)) (by (with_reducible repeat (first | refine blk_drewN ?_ _ | refine blk_drew ?_ | refine blk_alloc ?_ _)); refine blk_put (cs := #[.slice Ao6 y102.length co6, .int .i64 0]) ?_ 1 _ rfl; (with_reducible repeat (first | refine blk_drewN ?_ _ | refine blk_drew ?_ | refine blk_alloc ?_ _)); refine blk_put (cs := #[.slice none 0 0, .int .i64 0]) ?_ 0 _ rfl; (with_reducible repeat (first | refine blk_drewN ?_ _ | refine blk_drew ?_ | refine blk_alloc ?_ _)); exact BK105.out)) : gb106 ≠ gb105)); clear HO104; clear BK105; clear HB; have HO104 := n0_; have BK105 := n1_; have HB := n2_; have BK106 := n3_; have GW106 := n4_; have GE106 := n5_; have NB105_106 := n6_; have NB106_105 := n7_; clear n0_ n1_ n2_ n3_ n4_ n5_ n6_ n7_; clear hb hbox hg) | ((with_reducible refine gate_dst (N := 3) rfl ?_); refine box_event ?hg (N := 3) ?hd (cs := #[.int .i64 0, .int .i64 0, .string (⟨#[]⟩ : ByteArray)]) (t := 26) ?hr ?_; (case hd => rfl); (case hg => rfl); (case hr => first | (go_simp; done) | (go_simp; rfl)); intro gb107 hg w10 hbox hb; have n0_ := qR HO104 hb; have n1_ := qB BK105 hb; have n2_ := qB BK106 hb; have n3_ := qS HB hb; have n4_ := Aside0.mk (hbox); have n5_ := Aside0.mk ((by rw [hg]; exact (qZ HB) : w.heap.size ≤ gb107)); have n6_ := Aside0.mk ((by rw [hg]; exact (qZ HB) : w.heap.size ≤ gb107)); have n7_ := Aside0.mk ((by rw [hg]; exact Nat.ne_of_lt (blk_lt (g := gb105) (o := .cells #[.slice Ao6 y102.length co6, .int .i64 2] 33 (0, 0)) (by (with_reducible repeat (first | refine blk_drewN ?_ _ | refine blk_drew ?_ | refine blk_alloc ?_ _)); exact BK105.out)) : gb105 ≠ gb107)); have n8_ := Aside0.mk ((by rw [hg]; exact Nat.ne_of_gt (blk_lt (g := gb105) (o := .cells #[.slice Ao6 y102.length co6, .int .i64 2] 33 (0, 0)) (by (with_reducible repeat (first | refine blk_drewN ?_ _ | refine blk_drew ?_ | refine blk_alloc ?_ _)); exact BK105.out)) : gb107 ≠ gb105)); have n9_ := Aside0.mk ((by rw [hg]; exact Nat.ne_of_lt (blk_lt (g := gb106) (o := .cells #[.int .i64 0, .int .i64 0, .string (⟨#[]⟩ : ByteArray)] 26 (0, 0)) (by (with_reducible repeat (first | refine blk_drewN ?_ _ | refine blk_drew ?_ | refine blk_alloc ?_ _)); exact BK106.out)) : gb106 ≠ gb107)); have n10_ := Aside0.mk ((by rw [hg]; exact Nat.ne_of_gt (blk_lt (g := gb106) (o := .cells #[.int .i64 0, .int .i64 0, .string (⟨#[]⟩ : ByteArray)] 26 (0, 0)) (by (with_reducible repeat (first | refine blk_drewN ?_ _ | refine blk_drew ?_ | refine blk_alloc ?_ _)); exact BK106.out)) : gb107 ≠ gb106)); clear HO104; clear BK105; clear BK106; clear HB; have HO104 := n0_; have BK105 := n1_; have BK106 := n2_; have HB := n3_; have BK107 := n4_; have GW107 := n5_; have GE107 := n6_; have NB105_107 := n7_; have NB107_105 := n8_; have NB106_107 := n9_; have NB107_106 := n10_; clear n0_ n1_ n2_ n3_ n4_ n5_ n6_ n7_ n8_ n9_ n10_; clear hb hbox hg; have hnb11 := NB106_105.out; have hnc11 := NB105_106.out; have hnb12 := NB106_107.out; have hnc12 := NB107_106.out; have hcz13_0 : w10.cell? ⟨gb106, 0, none⟩ = some (.int .i64 0) := (blk_cell BK106.out 0).trans rfl; have hcz13_1 : w10.cell? ⟨gb106, 1, none⟩ = some (.int .i64 0) := (blk_cell BK106.out 1).trans rfl; have hcz13_2 : w10.cell? ⟨gb106, 2, none⟩ = some (.string (⟨#[]⟩ : ByteArray)) := (blk_cell BK106.out 2).trans rfl; have hfz13_0 := blk_frozen BK106.out 0; have hfz13_1 := blk_frozen BK106.out 1; have hfz13_2 := blk_frozen BK106.out 2; have hnb14 := NB107_105.out; have hnc14 := NB105_107.out; have hcz15_0 : w10.cell? ⟨gb107, 0, none⟩ = some (.int .i64 0) := (blk_cell BK107.out 0).trans rfl; have hcz15_1 : w10.cell? ⟨gb107, 1, none⟩ = some (.int .i64 0) := (blk_cell BK107.out 1).trans rfl; have hcz15_2 : w10.cell? ⟨gb107, 2, none⟩ = some (.string (⟨#[]⟩ : ByteArray)) := (blk_cell BK107.out 2).trans rfl; have hfz15_0 := blk_frozen BK107.out 0; have hfz15_1 := blk_frozen BK107.out 1; have hfz15_2 := blk_frozen BK107.out 2) | ((with_reducible refine gate_dst (N := 4) rfl ?_); refine box_event ?hg (N := 4) ?hd (cs := #[.int .i64 0, .int .i64 0, .string (⟨#[]⟩ : ByteArray)]) (t := 26) ?hr ?_; (case hd => rfl); (case hg => rfl); (case hr => first | (go_simp; done) | (go_simp; rfl)); intro gb108 hg w16 hbox hb; have n0_ := Aside0.mk (Kd.R_below (by (with_reducible repeat (first | apply Kd.R_alloc | apply Kd.R_drewN | apply Kd.R_drew)); exact (Kd.R_mono (Kd.R_mono (Kd.R_far (p := ⟨gb107, 2, none⟩) (Kd.R_far (p := ⟨gb107, 1, none⟩) (Kd.R_far (p := ⟨gb107, 0, none⟩) (Kd.R_far (p := ⟨gb106, 2, none⟩) (Kd.R_far (p := ⟨gb106, 1, none⟩) (Kd.R_far (p := ⟨gb106, 0, none⟩) (Kd.R_types (Kd.R_types HO104.out BK106.out (by decide)) BK107.out (by decide)) (fun _ hk => hk.1.2) (.int .i64 2)) (fun _ hk => hk.1.2) (.int .i64 1)) (fun _ hk => hk.1.2) (.string (⟨#[]⟩ : ByteArray))) (fun _ hk => hk.2) (.int .i64 1)) (fun _ hk => hk.2) (.int .i64 2)) (fun _ hk => hk.2) (.string (⟨#[]⟩ : ByteArray))) (fun _ h_ => h_.1)) (fun _ h_ => h_.1))) hb); have n1_ := Aside0.mk (blk_below (g := gb105) (o := .cells #[.slice Ao6 y102.length co6, .int .i64 2] 33 (0, 0)) (by (with_reducible repeat (first | refine blk_drewN ?_ _ | refine blk_drew ?_ | refine blk_alloc ?_ _)); refine blk_far ?_ NB105_107.out _; (with_reducible repeat (first | refine blk_drewN ?_ _ | refine blk_drew ?_ | refine blk_alloc ?_ _)); refine blk_far ?_ NB105_107.out _; (with_reducible repeat (first | refine blk_drewN ?_ _ | refine blk_drew ?_ | refine blk_alloc ?_ _)); refine blk_far ?_ NB105_107.out _; (with_reducible repeat (first | refine blk_drewN ?_ _ | refine blk_drew ?_ | refine blk_alloc ?_ _)); refine blk_far ?_ NB105_106.out _; (with_reducible repeat (first | refine blk_drewN ?_ _ | refine blk_drew ?_ | refine blk_alloc ?_ _)); refine blk_far ?_ NB105_106.out _; (with_reducible repeat (first | refine blk_drewN ?_ _ | refine blk_drew ?_ | refine blk_alloc ?_ _)); refine blk_far ?_ NB105_106.out _; (with_reducible repeat (first | refine blk_drewN ?_ _ | refine blk_drew ?_ | refine blk_alloc ?_ _)); exact BK105.out) hb); have n2_ := Aside0.mk (blk_below (g := gb106) (o := .cells #[.int .i64 2, .int .i64 1, .string (⟨#[]⟩ : ByteArray)] 26 (0, 0)) (by (with_reducible repeat (first | refine blk_drewN ?_ _ | refine blk_drew ?_ | refine blk_alloc ?_ _)); refine blk_far ?_ NB106_107.out _; (with_reducible repeat (first | refine blk_drewN ?_ _ | refine blk_drew ?_ | refine blk_alloc ?_ _)); refine blk_far ?_ NB106_107.out _; (with_reducible repeat (first | refine blk_drewN ?_ _ | refine blk_drew ?_ | refine blk_alloc ?_ _)); refine blk_far ?_ NB106_107.out _; (with_reducible repeat (first | refine blk_drewN ?_ _ | refine blk_drew ?_ | refine blk_alloc ?_ _)); refine blk_put (cs := #[.int .i64 2, .int .i64 1, .string (⟨#[]⟩ : ByteArray)]) ?_ 2 _ rfl; (with_reducible repeat (first | refine blk_drewN ?_ _ | refine blk_drew ?_ | refine blk_alloc ?_ _)); refine blk_put (cs := #[.int .i64 2, .int .i64 0, .string (⟨#[]⟩ : ByteArray)]) ?_ 1 _ rfl; (with_reducible repeat (first | refine blk_drewN ?_ _ | refine blk_drew ?_ | refine blk_alloc ?_ _)); refine blk_put (cs := #[.int .i64 0, .int .i64 0, .string (⟨#[]⟩ : ByteArray)]) ?_ 0 _ rfl; (with_reducible repeat (first | refine blk_drewN ?_ _ | refine blk_drew ?_ | refine blk_alloc ?_ _)); exact BK106.out) hb); have n3_ := Aside0.mk (blk_below (g := gb107) (o := .cells #[.int .i64 1, .int .i64 2, .string (⟨#[]⟩ : ByteArray)] 26 (0, 0)) (by (with_reducible repeat (first | refine blk_drewN ?_ _ | refine blk_drew ?_ | refine blk_alloc ?_ _)); refine blk_put (cs := #[.int .i64 1, .int .i64 2, .string (⟨#[]⟩ : ByteArray)]) ?_ 2 _ rfl; (with_reducible repeat (first | refine blk_drewN ?_ _ | refine blk_drew ?_ | refine blk_alloc ?_ _)); refine blk_put (cs := #[.int .i64 1, .int .i64 0, .string (⟨#[]⟩ : ByteArray)]) ?_ 1 _ rfl; (with_reducible repeat (first | refine blk_drewN ?_ _ | refine blk_drew ?_ | refine blk_alloc ?_ _)); refine blk_put (cs := #[.int .i64 0, .int .i64 0, .string (⟨#[]⟩ : ByteArray)]) ?_ 0 _ rfl; (with_reducible repeat (first | refine blk_drewN ?_ _ | refine blk_drew ?_ | refine blk_alloc ?_ _)); refine blk_far ?_ NB107_106.out _; (with_reducible repeat (first | refine blk_drewN ?_ _ | refine blk_drew ?_ | refine blk_alloc ?_ _)); refine blk_far ?_ NB107_106.out _; (with_reducible repeat (first | refine blk_drewN ?_ _ | refine blk_drew ?_ | refine blk_alloc ?_ _)); refine blk_far ?_ NB107_106.out _; (with_reducible repeat (first | refine blk_drewN ?_ _ | refine blk_drew ?_ | refine blk_alloc ?_ _)); exact BK107.out) hb); have n4_ := qS HB hb; have n5_ := Aside0.mk (hbox); have n6_ := Aside0.mk ((by rw [hg]; exact (qZ HB) : w.heap.size ≤ gb108)); have n7_ := Aside0.mk ((by rw [hg]; exact (qZ HB) : w.heap.size ≤ gb108)); have n8_ := Aside0.mk ((by rw [hg]; exact Nat.ne_of_lt (blk_lt (g := gb105) (o := .cells #[.slice Ao6 y102.length co6, .int .i64 2] 33 (0, 0)) (by (with_reducible repeat (first | refine blk_drewN ?_ _ | refine blk_drew ?_ | refine blk_alloc ?_ _)); refine blk_far ?_ NB105_107.out _; (with_reducible repeat (first | refine blk_drewN ?_ _ | refine blk_drew ?_ | refine blk_alloc ?_ _)); refine blk_far ?_ NB105_107.out _; (with_reducible repeat (first | refine blk_drewN ?_ _ | refine blk_drew ?_ | refine blk_alloc ?_ _)); refine blk_far ?_ NB105_107.out _; (with_reducible repeat (first | refine blk_drewN ?_ _ | refine blk_drew ?_ | refine blk_alloc ?_ _)); refine blk_far ?_ NB105_106.out _; (with_reducible repeat (first | refine blk_drewN ?_ _ | refine blk_drew ?_ | refine blk_alloc ?_ _)); refine blk_far ?_ NB105_106.out _; (with_reducible repeat (first | refine blk_drewN ?_ _ | refine blk_drew ?_ | refine blk_alloc ?_ _)); refine blk_far ?_ NB105_106.out _; (with_reducible repeat (first | refine blk_drewN ?_ _ | refine blk_drew ?_ | refine blk_alloc ?_ _)); exact BK105.out)) : gb105 ≠ gb108)); have n9_ := Aside0.mk ((by rw [hg]; exact Nat.ne_of_gt (blk_lt (g := gb105) (o := .cells #[.slice Ao6 y102.length co6, .int .i64 2] 33 (0, 0)) (by (with_reducible repeat (first | refine blk_drewN ?_ _ | refine blk_drew ?_ | refine blk_alloc ?_ _)); refine blk_far ?_ NB105_107.out _; (with_reducible repeat (first | refine blk_drewN ?_ _ | refine blk_drew ?_ | refine blk_alloc ?_ _)); refine blk_far ?_ NB105_107.out _; (with_reducible repeat (first | refine blk_drewN ?_ _ | refine blk_drew ?_ | refine blk_alloc ?_ _)); refine blk_far ?_ NB105_107.out _; (with_reducible repeat (first | refine blk_drewN ?_ _ | refine blk_drew ?_ | refine blk_alloc ?_ _)); refine blk_far ?_ NB105_106.out _; (with_reducible repeat (first | refine blk_drewN ?_ _ | refine blk_drew ?_ | refine blk_alloc ?_ _)); refine blk_far ?_ NB105_106.out _; (with_reducible repeat (first | refine blk_drewN ?_ _ | refine blk_drew ?_ | refine blk_alloc ?_ _)); refine blk_far ?_ NB105_106.out _; (with_reducible repeat (first | refine blk_drewN ?_ _ | refine blk_drew ?_ | refine blk_alloc ?_ _)); exact BK105.out)) : gb108 ≠ gb105)); have n10_ := Aside0.mk ((by rw [hg]; exact Nat.ne_of_lt (blk_lt (g := gb106) (o := .cells #[.int .i64 2, .int .i64 1, .string (⟨#[]⟩ : ByteArray)] 26 (0, 0)) (by (with_reducible repeat (first | refine blk_drewN ?_ _ | refine blk_drew ?_ | refine blk_alloc ?_ _)); refine blk_far ?_ NB106_107.out _; (with_reducible repeat (first | refine blk_drewN ?_ _ | refine blk_drew ?_ | refine blk_alloc ?_ _)); refine blk_far ?_ NB106_107.out _; (with_reducible repeat (first | refine blk_drewN ?_ _ | refine blk_drew ?_ | refine blk_alloc ?_ _)); refine blk_far ?_ NB106_107.out _; (with_reducible repeat (first | refine blk_drewN ?_ _ | refine blk_drew ?_ | refine blk_alloc ?_ _)); refine blk_put (cs := #[.int .i64 2, .int .i64 1, .string (⟨#[]⟩ : ByteArray)]) ?_ 2 _ rfl; (with_reducible repeat (first | refine blk_drewN ?_ _ | refine blk_drew ?_ | refine blk_alloc ?_ _)); refine blk_put (cs := #[.int .i64 2, .int .i64 0, .string (⟨#[]⟩ : ByteArray)]) ?_ 1 _ rfl; (with_reducible repeat (first | refine blk_drewN ?_ _ | refine blk_drew ?_ | refine blk_alloc ?_ _)); refine blk_put (cs := #[.int .i64 0, .int .i64 0, .string (⟨#[]⟩ : ByteArray)]) ?_ 0 _ rfl; (with_reducible repeat (first | refine blk_drewN ?_ _ | refine blk_drew ?_ | refine blk_alloc ?_ _)); exact BK106.out)) : gb106 ≠ gb108)); have n11_ := Aside0.mk ((by rw [hg]; exact Nat.ne_of_gt (blk_lt (g := gb106) (o := .cells #[.int .i64 2, .int .i64 1, .string (⟨#[]⟩ : ByteArray)] 26 (0, 0)) (by (with_reducible repeat (first | refine blk_drewN ?_ _ | refine blk_drew ?_ | refine blk_alloc ?_ _)); refine blk_far ?_ NB106_107.out _; (with_reducible repeat (first | refine blk_drewN ?_ _ | refine blk_drew ?_ | refine blk_alloc ?_ _)); refine blk_far ?_ NB106_107.out _; (with_reducible repeat (first | refine blk_drewN ?_ _ | refine blk_drew ?_ | refine blk_alloc ?_ _)); refine blk_far ?_ NB106_107.out _; (with_reducible repeat (first | refine blk_drewN ?_ _ | refine blk_drew ?_ | refine blk_alloc ?_ _)); refine blk_put (cs := #[.int .i64 2, .int .i64 1, .string (⟨#[]⟩ : ByteArray)]) ?_ 2 _ rfl; (with_reducible repeat (first | refine blk_drewN ?_ _ | refine blk_drew ?_ | refine blk_alloc ?_ _)); refine blk_put (cs := #[.int .i64 2, .int .i64 0, .string (⟨#[]⟩ : ByteArray)]) ?_ 1 _ rfl; (with_reducible repeat (first | refine blk_drewN ?_ _ | refine blk_drew ?_ | refine blk_alloc ?_ _)); refine blk_put (cs := #[.int .i64 0, .int .i64 0, .string (⟨#[]⟩ : ByteArray)]) ?_ 0 _ rfl; (with_reducible repeat (first | refine blk_drewN ?_ _ | refine blk_drew ?_ | refine blk_alloc ?_ _)); exact BK106.out)) : gb108 ≠ gb106)); have n12_ := Aside0.mk ((by rw [hg]; exact Nat.ne_of_lt (blk_lt (g := gb107) (o := .cells #[.int .i64 1, .int .i64 2, .string (⟨#[]⟩ : ByteArray)] 26 (0, 0)) (by (with_reducible repeat (first | refine blk_drewN ?_ _ | refine blk_drew ?_ | refine blk_alloc ?_ _)); refine blk_put (cs := #[.int .i64 1, .int .i64 2, .string (⟨#[]⟩ : ByteArray)]) ?_ 2 _ rfl; (with_reducible repeat (first | refine blk_drewN ?_ _ | refine blk_drew ?_ | refine blk_alloc ?_ _)); refine blk_put (cs := #[.int .i64 1, .int .i64 0, .string (⟨#[]⟩ : ByteArray)]) ?_ 1 _ rfl; (with_reducible repeat (first | refine blk_drewN ?_ _ | refine blk_drew ?_ | refine blk_alloc ?_ _)); refine blk_put (cs := #[.int .i64 0, .int .i64 0, .string (⟨#[]⟩ : ByteArray)]) ?_ 0 _ rfl; (with_reducible repeat (first | refine blk_drewN ?_ _ | refine blk_drew ?_ | refine blk_alloc ?_ _)); refine blk_far ?_ NB107_106.out _; (with_reducible repeat (first | refine blk_drewN ?_ _ | refine blk_drew ?_ | refine blk_alloc ?_ _)); refine blk_far ?_ NB107_106.out _; (with_reducible repeat (first | refine blk_drewN ?_ _ | refine blk_drew ?_ | refine blk_alloc ?_ _)); refine blk_far ?_ NB107_106.out _; (with_reducible repeat (first | refine blk_drewN ?_ _ | refine blk_drew ?_ | refine blk_alloc ?_ _)); exact BK107.out)) : gb107 ≠ gb108)); have n13_ := Aside0.mk ((by rw [hg]; exact Nat.ne_of_gt (blk_lt (g := gb107) (o := .cells #[.int .i64 1, .int .i64 2, .string (⟨#[]⟩ : ByteArray)] 26 (0, 0)) (by (with_reducible repeat (first | refine blk_drewN ?_ _ | refine blk_drew ?_ | refine blk_alloc ?_ _)); refine blk_put (cs := #[.int .i64 1, .int .i64 2, .string (⟨#[]⟩ : ByteArray)]) ?_ 2 _ rfl; (with_reducible repeat (first | refine blk_drewN ?_ _ | refine blk_drew ?_ | refine blk_alloc ?_ _)); refine blk_put (cs := #[.int .i64 1, .int .i64 0, .string (⟨#[]⟩ : ByteArray)]) ?_ 1 _ rfl; (with_reducible repeat (first | refine blk_drewN ?_ _ | refine blk_drew ?_ | refine blk_alloc ?_ _)); refine blk_put (cs := #[.int .i64 0, .int .i64 0, .string (⟨#[]⟩ : ByteArray)]) ?_ 0 _ rfl; (with_reducible repeat (first | refine blk_drewN ?_ _ | refine blk_drew ?_ | refine blk_alloc ?_ _)); refine blk_far ?_ NB107_106.out _; (with_reducible repeat (first | refine blk_drewN ?_ _ | refine blk_drew ?_ | refine blk_alloc ?_ _)); refine blk_far ?_ NB107_106.out _; (with_reducible repeat (first | refine blk_drewN ?_ _ | refine blk_drew ?_ | refine blk_alloc ?_ _)); refine blk_far ?_ NB107_106.out _; (with_reducible repeat (first | refine blk_drewN ?_ _ | refine blk_drew ?_ | refine blk_alloc ?_ _)); exact BK107.out)) : gb108 ≠ gb107)); clear HO104; clear BK105; clear BK106; clear BK107; clear HB; have HO104 := n0_; have BK105 := n1_; have BK106 := n2_; have BK107 := n3_; have HB := n4_; have BK108 := n5_; have GW108 := n6_; have GE108 := n7_; have NB105_108 := n8_; have NB108_105 := n9_; have NB106_108 := n10_; have NB108_106 := n11_; have NB107_108 := n12_; have NB108_107 := n13_; clear n0_ n1_ n2_ n3_ n4_ n5_ n6_ n7_ n8_ n9_ n10_ n11_ n12_ n13_; clear hb hbox hg; have hnb17 := NB108_105.out; have hnc17 := NB105_108.out; have hnb18 := NB108_106.out; have hnc18 := NB106_108.out; have hnb19 := NB108_107.out; have hnc19 := NB107_108.out; have hcz20_0 : w16.cell? ⟨gb108, 0, none⟩ = some (.int .i64 0) := (blk_cell BK108.out 0).trans rfl; have hcz20_1 : w16.cell? ⟨gb108, 1, none⟩ = some (.int .i64 0) := (blk_cell BK108.out 1).trans rfl; have hcz20_2 : w16.cell? ⟨gb108, 2, none⟩ = some (.string (⟨#[]⟩ : ByteArray)) := (blk_cell BK108.out 2).trans rfl; have hfz20_0 := blk_frozen BK108.out 0; have hfz20_1 := blk_frozen BK108.out 1; have hfz20_2 := blk_frozen BK108.out 2; have hcz21_0 : w16.cell? ⟨gb106, 0, none⟩ = some (.int .i64 2) := (blk_cell BK106.out 0).trans rfl; have hcz21_1 : w16.cell? ⟨gb106, 1, none⟩ = some (.int .i64 1) := (blk_cell BK106.out 1).trans rfl; have hcz21_2 : w16.cell? ⟨gb106, 2, none⟩ = some (.string (⟨#[]⟩ : ByteArray)) := (blk_cell BK106.out 2).trans rfl; have hfz21_0 := blk_frozen BK106.out 0; have hfz21_1 := blk_frozen BK106.out 1; have hfz21_2 := blk_frozen BK106.out 2) | ((with_reducible refine gate_dst (N := 23) rfl ?_); refine Kd.R_lit k26 _ 26 ?hg (N := 23) ?hd (xs := ([(⟨2, 1, (⟨#[]⟩ : ByteArray)⟩ : S26), (⟨0, 0, (⟨#[]⟩ : ByteArray)⟩ : S26)] : List (S26))) (inner := [.int .i64 2, .int .i64 1, .string (⟨#[]⟩ : ByteArray), .int .i64 0, .int .i64 0, .string (⟨#[]⟩ : ByteArray)]) (ok := fun _ => True) (okp := fun _ => True) ?hr ?hp (fun _ hk => hk) trivial (Below.refl _ _) (Nat.le_refl _) (by simp) ?_; (case hd => rfl); (case hg => rfl); (case hr => first | (go_simp; done) | (go_simp; rfl)); (case hp => exact (Reps.c3 (show Kd.M k26 _ _ _ (⟨2, 1, (⟨#[]⟩ : ByteArray)⟩ : S26) [.int .i64 2, .int .i64 1, .string (⟨#[]⟩ : ByteArray)] from (k26_mkM _ _ _ (⟨2, 1, (⟨#[]⟩ : ByteArray)⟩ : S26) )) (Reps.c3 (show Kd.M k26 _ _ _ (⟨0, 0, (⟨#[]⟩ : ByteArray)⟩ : S26) [.int .i64 0, .int .i64 0, .string (⟨#[]⟩ : ByteArray)] from (k26_mkM _ _ _ (⟨0, 0, (⟨#[]⟩ : ByteArray)⟩ : S26) )) (Reps.none _ _)))); intro v110 w22 ho23 hb hg_ hnew_; clear hg_ hnew_; (first | rw [← Ny109.out] at ho23 | (simp only [Int.reduceToNat] at ho23; rw [← Ny109.out] at ho23)); have n0_ := Aside0.mk (Kd.R_below (by (with_reducible repeat (first | apply Kd.R_alloc | apply Kd.R_drewN | apply Kd.R_drew)); exact (Kd.R_mono (Kd.R_far (p := ⟨gb108, 2, none⟩) (Kd.R_far (p := ⟨gb108, 1, none⟩) (Kd.R_far (p := ⟨gb108, 0, none⟩) (Kd.R_types HO104.out BK108.out (by decide)) (fun _ hk => hk.2) (.int .i64 4)) (fun _ hk => hk.2) (.int .i64 0)) (fun _ hk => hk.2) (.string (⟨#[98]⟩ : ByteArray))) (fun _ h_ => h_.1))) hb); have n1_ := Aside0.mk (Kd.R_lower (Kd.R_newB (Kd.R_newB (Kd.R_newB ho23 (g := gb106) (o := .cells #[.int .i64 2, .int .i64 1, .string (⟨#[]⟩ : ByteArray)] 26 (0, 0)) (by (with_reducible repeat (first | refine blk_drewN ?_ _ | refine blk_drew ?_ | refine blk_alloc ?_ _)); refine blk_far ?_ NB106_108.out _; (with_reducible repeat (first | refine blk_drewN ?_ _ | refine blk_drew ?_ | refine blk_alloc ?_ _)); refine blk_far ?_ NB106_108.out _; (with_reducible repeat (first | refine blk_drewN ?_ _ | refine blk_drew ?_ | refine blk_alloc ?_ _)); refine blk_far ?_ NB106_108.out _; (with_reducible repeat (first | refine blk_drewN ?_ _ | refine blk_drew ?_ | refine blk_alloc ?_ _)); exact BK106.out)) (g := gb107) (o := .cells #[.int .i64 1, .int .i64 2, .string (⟨#[]⟩ : ByteArray)] 26 (0, 0)) (by (with_reducible repeat (first | refine blk_drewN ?_ _ | refine blk_drew ?_ | refine blk_alloc ?_ _)); refine blk_far ?_ NB107_108.out _; (with_reducible repeat (first | refine blk_drewN ?_ _ | refine blk_drew ?_ | refine blk_alloc ?_ _)); refine blk_far ?_ NB107_108.out _; (with_reducible repeat (first | refine blk_drewN ?_ _ | refine blk_drew ?_ | refine blk_alloc ?_ _)); refine blk_far ?_ NB107_108.out _; (with_reducible repeat (first | refine blk_drewN ?_ _ | refine blk_drew ?_ | refine blk_alloc ?_ _)); exact BK107.out)) (g := gb108) (o := .cells #[.int .i64 4, .int .i64 0, .string (⟨#[98]⟩ : ByteArray)] 26 (0, 0)) (by (with_reducible repeat (first | refine blk_drewN ?_ _ | refine blk_drew ?_ | refine blk_alloc ?_ _)); refine blk_put (cs := #[.int .i64 4, .int .i64 0, .string (⟨#[]⟩ : ByteArray)]) ?_ 2 _ rfl; (with_reducible repeat (first | refine blk_drewN ?_ _ | refine blk_drew ?_ | refine blk_alloc ?_ _)); refine blk_put (cs := #[.int .i64 4, .int .i64 0, .string (⟨#[]⟩ : ByteArray)]) ?_ 1 _ rfl; (with_reducible repeat (first | refine blk_drewN ?_ _ | refine blk_drew ?_ | refine blk_alloc ?_ _)); refine blk_put (cs := #[.int .i64 0, .int .i64 0, .string (⟨#[]⟩ : ByteArray)]) ?_ 0 _ rfl; (with_reducible repeat (first | refine blk_drewN ?_ _ | refine blk_drew ?_ | refine blk_alloc ?_ _)); exact BK108.out)) (qZ HB)); have n2_ := Aside0.mk (blk_below (g := gb105) (o := .cells #[.slice Ao6 y102.length co6, .int .i64 2] 33 (0, 0)) (by (with_reducible repeat (first | refine blk_drewN ?_ _ | refine blk_drew ?_ | refine blk_alloc ?_ _)); refine blk_far ?_ NB105_108.out _; (with_reducible repeat (first | refine blk_drewN ?_ _ | refine blk_drew ?_ | refine blk_alloc ?_ _)); refine blk_far ?_ NB105_108.out _; (with_reducible repeat (first | refine blk_drewN ?_ _ | refine blk_drew ?_ | refine blk_alloc ?_ _)); refine blk_far ?_ NB105_108.out _; (with_reducible repeat (first | refine blk_drewN ?_ _ | refine blk_drew ?_ | refine blk_alloc ?_ _)); exact BK105.out) hb); have n3_ := Aside0.mk (blk_below (g := gb106) (o := .cells #[.int .i64 2, .int .i64 1, .string (⟨#[]⟩ : ByteArray)] 26 (0, 0)) (by (with_reducible repeat (first | refine blk_drewN ?_ _ | refine blk_drew ?_ | refine blk_alloc ?_ _)); refine blk_far ?_ NB106_108.out _; (with_reducible repeat (first | refine blk_drewN ?_ _ | refine blk_drew ?_ | refine blk_alloc ?_ _)); refine blk_far ?_ NB106_108.out _; (with_reducible repeat (first | refine blk_drewN ?_ _ | refine blk_drew ?_ | refine blk_alloc ?_ _)); refine blk_far ?_ NB106_108.out _; (with_reducible repeat (first | refine blk_drewN ?_ _ | refine blk_drew ?_ | refine blk_alloc ?_ _)); exact BK106.out) hb); have n4_ := Aside0.mk (blk_below (g := gb107) (o := .cells #[.int .i64 1, .int .i64 2, .string (⟨#[]⟩ : ByteArray)] 26 (0, 0)) (by (with_reducible repeat (first | refine blk_drewN ?_ _ | refine blk_drew ?_ | refine blk_alloc ?_ _)); refine blk_far ?_ NB107_108.out _; (with_reducible repeat (first | refine blk_drewN ?_ _ | refine blk_drew ?_ | refine blk_alloc ?_ _)); refine blk_far ?_ NB107_108.out _; (with_reducible repeat (first | refine blk_drewN ?_ _ | refine blk_drew ?_ | refine blk_alloc ?_ _)); refine blk_far ?_ NB107_108.out _; (with_reducible repeat (first | refine blk_drewN ?_ _ | refine blk_drew ?_ | refine blk_alloc ?_ _)); exact BK107.out) hb); have n5_ := Aside0.mk (blk_below (g := gb108) (o := .cells #[.int .i64 4, .int .i64 0, .string (⟨#[98]⟩ : ByteArray)] 26 (0, 0)) (by (with_reducible repeat (first | refine blk_drewN ?_ _ | refine blk_drew ?_ | refine blk_alloc ?_ _)); refine blk_put (cs := #[.int .i64 4, .int .i64 0, .string (⟨#[]⟩ : ByteArray)]) ?_ 2 _ rfl; (with_reducible repeat (first | refine blk_drewN ?_ _ | refine blk_drew ?_ | refine blk_alloc ?_ _)); refine blk_put (cs := #[.int .i64 4, .int .i64 0, .string (⟨#[]⟩ : ByteArray)]) ?_ 1 _ rfl; (with_reducible repeat (first | refine blk_drewN ?_ _ | refine blk_drew ?_ | refine blk_alloc ?_ _)); refine blk_put (cs := #[.int .i64 0, .int .i64 0, .string (⟨#[]⟩ : ByteArray)]) ?_ 0 _ rfl; (with_reducible repeat (first | refine blk_drewN ?_ _ | refine blk_drew ?_ | refine blk_alloc ?_ _)); exact BK108.out) hb); have n6_ := qS HB hb; clear HO104; clear BK105; clear BK106; clear BK107; clear BK108; clear HB; have HO104 := n0_; have HO111 := n1_; have BK105 := n2_; have BK106 := n3_; have BK107 := n4_; have BK108 := n5_; have HB := n6_; clear n0_ n1_ n2_ n3_ n4_ n5_ n6_; clear hb ho23; have hcz24_0 : w22.cell? ⟨gb106, 0, none⟩ = some (.int .i64 2) := (blk_cell BK106.out 0).trans rfl; have hcz24_1 : w22.cell? ⟨gb106, 1, none⟩ = some (.int .i64 1) := (blk_cell BK106.out 1).trans rfl; have hcz24_2 : w22.cell? ⟨gb106, 2, none⟩ = some (.string (⟨#[]⟩ : ByteArray)) := (blk_cell BK106.out 2).trans rfl; have hfz24_0 := blk_frozen BK106.out 0; have hfz24_1 := blk_frozen BK106.out 1; have hfz24_2 := blk_frozen BK106.out 2) | ((with_reducible refine gate_dst (N := 26) rfl ?_); refine Kd.R_lit k28 _ 28 ?hg (N := 26) ?hd (xs := ([(⟨(⟨#[105]⟩ : ByteArray), 1, (⟨2, 1, (⟨#[]⟩ : ByteArray)⟩ : S26), false, false⟩ : S28)] : List (S28))) (inner := [.string (⟨#[105]⟩ : ByteArray), .int .i64 1, .int .i64 2, .int .i64 1, .string (⟨#[]⟩ : ByteArray), .bool false, .bool false]) (ok := fun _ => True) (okp := fun _ => True) ?hr ?hp (fun _ hk => hk) trivial (Below.refl _ _) (Nat.le_refl _) (by simp) ?_; (case hd => rfl); (case hg => rfl); (case hr => first | (go_simp; done) | (go_simp; rfl)); (case hp => exact (Reps.c7 (show Kd.M k28 _ _ _ (⟨(⟨#[105]⟩ : ByteArray), 1, (⟨2, 1, (⟨#[]⟩ : ByteArray)⟩ : S26), false, false⟩ : S28) [.string (⟨#[105]⟩ : ByteArray), .int .i64 1, .int .i64 2, .int .i64 1, .string (⟨#[]⟩ : ByteArray), .bool false, .bool false] from (k28_mkM _ _ _ (⟨(⟨#[105]⟩ : ByteArray), 1, (⟨2, 1, (⟨#[]⟩ : ByteArray)⟩ : S26), false, false⟩ : S28) )) (Reps.none _ _))); intro v113 w25 ho26 hb hg_ hnew_; clear hg_ hnew_; (first | rw [← Ny112.out] at ho26 | (simp only [Int.reduceToNat] at ho26; rw [← Ny112.out] at ho26)); have n0_ := qR HO104 hb; have n1_ := qR HO111 hb; have n2_ := Aside0.mk (Kd.R_lower ho26 (qZ HB)); have n3_ := qB BK105 hb; have n4_ := qB BK106 hb; have n5_ := qB BK107 hb; have n6_ := qB BK108 hb; have n7_ := qS HB hb; clear HO104; clear HO111; clear BK105; clear BK106; clear BK107; clear BK108; clear HB; have HO104 := n0_; have HO111 := n1_; have HO114 := n2_; have BK105 := n3_; have BK106 := n4_; have BK107 := n5_; have BK108 := n6_; have HB := n7_; clear n0_ n1_ n2_ n3_ n4_ n5_ n6_ n7_; clear hb ho26; have hcz27_0 : w25.cell? ⟨gb107, 0, none⟩ = some (.int .i64 1) := (blk_cell BK107.out 0).trans rfl; have hcz27_1 : w25.cell? ⟨gb107, 1, none⟩ = some (.int .i64 2) := (blk_cell BK107.out 1).trans rfl; have hcz27_2 : w25.cell? ⟨gb107, 2, none⟩ = some (.string (⟨#[]⟩ : ByteArray)) := (blk_cell BK107.out 2).trans rfl; have hfz27_0 := blk_frozen BK107.out 0; have hfz27_1 := blk_frozen BK107.out 1; have hfz27_2 := blk_frozen BK107.out 2) | ((with_reducible refine gate_dst (N := 29) rfl ?_); refine Kd.R_lit k28 _ 28 ?hg (N := 29) ?hd (xs := ([(⟨(⟨#[105]⟩ : ByteArray), 3, (⟨1, 2, (⟨#[]⟩ : ByteArray)⟩ : S26), false, false⟩ : S28)] : List (S28))) (inner := [.string (⟨#[105]⟩ : ByteArray), .int .i64 3, .int .i64 1, .int .i64 2, .string (⟨#[]⟩ : ByteArray), .bool false, .bool false]) (ok := fun _ => True) (okp := fun _ => True) ?hr ?hp (fun _ hk => hk) trivial (Below.refl _ _) (Nat.le_refl _) (by simp) ?_; (case hd => rfl); (case hg => rfl); (case hr => first | (go_simp; done) | (go_simp; rfl)); (case hp => exact (Reps.c7 (show Kd.M k28 _ _ _ (⟨(⟨#[105]⟩ : ByteArray), 3, (⟨1, 2, (⟨#[]⟩ : ByteArray)⟩ : S26), false, false⟩ : S28) [.string (⟨#[105]⟩ : ByteArray), .int .i64 3, .int .i64 1, .int .i64 2, .string (⟨#[]⟩ : ByteArray), .bool false, .bool false] from (k28_mkM _ _ _ (⟨(⟨#[105]⟩ : ByteArray), 3, (⟨1, 2, (⟨#[]⟩ : ByteArray)⟩ : S26), false, false⟩ : S28) )) (Reps.none _ _))); intro v116 w28 ho29 hb hg_ hnew_; clear hg_ hnew_; (first | rw [← Ny115.out] at ho29 | (simp only [Int.reduceToNat] at ho29; rw [← Ny115.out] at ho29)); have n0_ := qR HO104 hb; have n1_ := qR HO111 hb; have n2_ := Aside0.mk (Kd.R_elder' (by (with_reducible repeat (first | apply Kd.R_alloc | apply Kd.R_drewN | apply Kd.R_drew)); exact HO114.out) (Kd.R_base ho29) hb); have n3_ := Aside0.mk (Kd.R_lower (Kd.R_new' ho29 (Kd.R_lt (by (with_reducible repeat (first | apply Kd.R_alloc | apply Kd.R_drewN | apply Kd.R_drew)); exact HO114.out))) (qZ HB)); have n4_ := qB BK105 hb; have n5_ := qB BK106 hb; have n6_ := qB BK107 hb; have n7_ := qB BK108 hb; have n8_ := qS HB hb; clear HO104; clear HO111; clear HO114; clear BK105; clear BK106; clear BK107; clear BK108; clear HB; have HO104 := n0_; have HO111 := n1_; have HO114 := n2_; have HO117 := n3_; have BK105 := n4_; have BK106 := n5_; have BK107 := n6_; have BK108 := n7_; have HB := n8_; clear n0_ n1_ n2_ n3_ n4_ n5_ n6_ n7_ n8_; clear hb ho29; have hcz30_0 : w28.cell? ⟨gb106, 0, none⟩ = some (.int .i64 2) := (blk_cell BK106.out 0).trans rfl; have hcz30_1 : w28.cell? ⟨gb106, 1, none⟩ = some (.int .i64 1) := (blk_cell BK106.out 1).trans rfl; have hcz30_2 : w28.cell? ⟨gb106, 2, none⟩ = some (.string (⟨#[]⟩ : ByteArray)) := (blk_cell BK106.out 2).trans rfl; have hfz30_0 := blk_frozen BK106.out 0; have hfz30_1 := blk_frozen BK106.out 1; have hfz30_2 := blk_frozen BK106.out 2) | ((with_reducible refine gate_dst (N := 32) rfl ?_); refine Kd.R_lit k28 _ 28 ?hg (N := 32) ?hd (xs := ([(⟨(⟨#[105]⟩ : ByteArray), 2, (⟨2, 1, (⟨#[]⟩ : ByteArray)⟩ : S26), false, false⟩ : S28)] : List (S28))) (inner := [.string (⟨#[105]⟩ : ByteArray), .int .i64 2, .int .i64 2, .int .i64 1, .string (⟨#[]⟩ : ByteArray), .bool false, .bool false]) (ok := fun _ => True) (okp := fun _ => True) ?hr ?hp (fun _ hk => hk) trivial (Below.refl _ _) (Nat.le_refl _) (by simp) ?_; (case hd => rfl); (case hg => rfl); (case hr => first | (go_simp; done) | (go_simp; rfl)); (case hp => exact (Reps.c7 (show Kd.M k28 _ _ _ (⟨(⟨#[105]⟩ : ByteArray), 2, (⟨2, 1, (⟨#[]⟩ : ByteArray)⟩ : S26), false, false⟩ : S28) [.string (⟨#[105]⟩ : ByteArray), .int .i64 2, .int .i64 2, .int .i64 1, .string (⟨#[]⟩ : ByteArray), .bool false, .bool false] from (k28_mkM _ _ _ (⟨(⟨#[105]⟩ : ByteArray), 2, (⟨2, 1, (⟨#[]⟩ : ByteArray)⟩ : S26), false, false⟩ : S28) )) (Reps.none _ _))); intro v119 w31 ho32 hb hg_ hnew_; clear hg_ hnew_; (first | rw [← Ny118.out] at ho32 | (simp only [Int.reduceToNat] at ho32; rw [← Ny118.out] at ho32)); have n0_ := qR HO104 hb; have n1_ := qR HO111 hb; have n2_ := Aside0.mk (Kd.R_elder' (by (with_reducible repeat (first | apply Kd.R_alloc | apply Kd.R_drewN | apply Kd.R_drew)); exact HO114.out) (Kd.R_base ho32) hb); have n3_ := Aside0.mk (Kd.R_elder' (by (with_reducible repeat (first | apply Kd.R_alloc | apply Kd.R_drewN | apply Kd.R_drew)); exact HO117.out) (Kd.R_base ho32) hb); have n4_ := Aside0.mk (Kd.R_lower (Kd.R_new' (Kd.R_new' ho32 (Kd.R_lt (by (with_reducible repeat (first | apply Kd.R_alloc | apply Kd.R_drewN | apply Kd.R_drew)); exact HO114.out))) (Kd.R_lt (by (with_reducible repeat (first | apply Kd.R_alloc | apply Kd.R_drewN | apply Kd.R_drew)); exact HO117.out))) (qZ HB)); have n5_ := qB BK105 hb; have n6_ := qB BK106 hb; have n7_ := qB BK107 hb; have n8_ := qB BK108 hb; have n9_ := qS HB hb; clear HO104; clear HO111; clear HO114; clear HO117; clear BK105; clear BK106; clear BK107; clear BK108; clear HB; have HO104 := n0_; have HO111 := n1_; have HO114 := n2_; have HO117 := n3_; have HO120 := n4_; have BK105 := n5_; have BK106 := n6_; have BK107 := n7_; have BK108 := n8_; have HB := n9_; clear n0_ n1_ n2_ n3_ n4_ n5_ n6_ n7_ n8_ n9_; clear hb ho32; have hcz33_0 : w31.cell? ⟨gb108, 0, none⟩ = some (.int .i64 4) := (blk_cell BK108.out 0).trans rfl; have hcz33_1 : w31.cell? ⟨gb108, 1, none⟩ = some (.int .i64 0) := (blk_cell BK108.out 1).trans rfl; have hcz33_2 : w31.cell? ⟨gb108, 2, none⟩ = some (.string (⟨#[98]⟩ : ByteArray)) := (blk_cell BK108.out 2).trans rfl; have hfz33_0 := blk_frozen BK108.out 0; have hfz33_1 := blk_frozen BK108.out 1; have hfz33_2 := blk_frozen BK108.out 2) | ((with_reducible refine gate_dst (N := 35) rfl ?_); refine Kd.R_lit k28 _ 28 ?hg (N := 35) ?hd (xs := ([(⟨(⟨#[116]⟩ : ByteArray), 1, (⟨4, 0, (⟨#[98]⟩ : ByteArray)⟩ : S26), false, false⟩ : S28)] : List (S28))) (inner := [.string (⟨#[116]⟩ : ByteArray), .int .i64 1, .int .i64 4, .int .i64 0, .string (⟨#[98]⟩ : ByteArray), .bool false, .bool false]) (ok := fun _ => True) (okp := fun _ => True) ?hr ?hp (fun _ hk => hk) trivial (Below.refl _ _) (Nat.le_refl _) (by simp) ?_; (case hd => rfl); (case hg => rfl); (case hr => first | (go_simp; done) | (go_simp; rfl)); (case hp => exact (Reps.c7 (show Kd.M k28 _ _ _ (⟨(⟨#[116]⟩ : ByteArray), 1, (⟨4, 0, (⟨#[98]⟩ : ByteArray)⟩ : S26), false, false⟩ : S28) [.string (⟨#[116]⟩ : ByteArray), .int .i64 1, .int .i64 4, .int .i64 0, .string (⟨#[98]⟩ : ByteArray), .bool false, .bool false] from (k28_mkM _ _ _ (⟨(⟨#[116]⟩ : ByteArray), 1, (⟨4, 0, (⟨#[98]⟩ : ByteArray)⟩ : S26), false, false⟩ : S28) )) (Reps.none _ _))); intro v122 w34 ho35 hb hg_ hnew_; clear hg_ hnew_; (first | rw [← Ny121.out] at ho35 | (simp only [Int.reduceToNat] at ho35; rw [← Ny121.out] at ho35)); have n0_ := qR HO104 hb; have n1_ := qR HO111 hb; have n2_ := Aside0.mk (Kd.R_elder' (by (with_reducible repeat (first | apply Kd.R_alloc | apply Kd.R_drewN | apply Kd.R_drew)); exact HO114.out) (Kd.R_base ho35) hb); have n3_ := Aside0.mk (Kd.R_elder' (by (with_reducible repeat (first | apply Kd.R_alloc | apply Kd.R_drewN | apply Kd.R_drew)); exact HO117.out) (Kd.R_base ho35) hb); have n4_ := Aside0.mk (Kd.R_elder' (by (with_reducible repeat (first | apply Kd.R_alloc | apply Kd.R_drewN | apply Kd.R_drew)); exact HO120.out) (Kd.R_base ho35) hb); have n5_ := Aside0.mk (Kd.R_lower (Kd.R_new' (Kd.R_new' (Kd.R_new' ho35 (Kd.R_lt (by (with_reducible repeat (first | apply Kd.R_alloc | apply Kd.R_drewN | apply Kd.R_drew)); exact HO114.out))) (Kd.R_lt (by (with_reducible repeat (first | apply Kd.R_alloc | apply Kd.R_drewN | apply Kd.R_drew)); exact HO117.out))) (Kd.R_lt (by (with_reducible repeat (first | apply Kd.R_alloc | apply Kd.R_drewN | apply Kd.R_drew)); exact HO120.out))) (qZ HB)); have n6_ := qB BK105 hb; have n7_ := qB BK106 hb; have n8_ := qB BK107 hb; have n9_ := qB BK108 hb; have n10_ := qS HB hb; clear HO104; clear HO111; clear HO114; clear HO117; clear HO120; clear BK105; clear BK106; clear BK107; clear BK108; clear HB; have HO104 := n0_; have HO111 := n1_; have HO114 := n2_; have HO117 := n3_; have HO120 := n4_; have HO123 := n5_; have BK105 := n6_; have BK106 := n7_; have BK107 := n8_; have BK108 := n9_; have HB := n10_; clear n0_ n1_ n2_ n3_ n4_ n5_ n6_ n7_ n8_ n9_ n10_; clear hb ho35) | ((with_reducible refine gate_dst (N := 37) rfl ?_); refine Kd.R_lit k28 _ 28 ?hg (N := 37) ?hd (xs := ([(⟨(⟨#[116]⟩ : ByteArray), 7, (⟨0, 0, (⟨#[]⟩ : ByteArray)⟩ : S26), false, false⟩ : S28)] : List (S28))) (inner := [.string (⟨#[116]⟩ : ByteArray), .int .i64 7, .int .i64 0, .int .i64 0, .string (⟨#[]⟩ : ByteArray), .bool false, .bool false]) (ok := fun _ => True) (okp := fun _ => True) ?hr ?hp (fun _ hk => hk) trivial (Below.refl _ _) (Nat.le_refl _) (by simp) ?_; (case hd => rfl); (case hg => rfl); (case hr => first | (go_simp; done) | (go_simp; rfl)); (case hp => exact (Reps.c7 (show Kd.M k28 _ _ _ (⟨(⟨#[116]⟩ : ByteArray), 7, (⟨0, 0, (⟨#[]⟩ : ByteArray)⟩ : S26), false, false⟩ : S28) [.string (⟨#[116]⟩ : ByteArray), .int .i64 7, .int .i64 0, .int .i64 0, .string (⟨#[]⟩ : ByteArray), .bool false, .bool false] from (k28_mkM _ _ _ (⟨(⟨#[116]⟩ : ByteArray), 7, (⟨0, 0, (⟨#[]⟩ : ByteArray)⟩ : S26), false, false⟩ : S28) )) (Reps.none _ _))); intro v125 w36 ho37 hb hg_ hnew_; clear hg_ hnew_; (first | rw [← Ny124.out] at ho37 | (simp only [Int.reduceToNat] at ho37; rw [← Ny124.out] at ho37)); have n0_ := qR HO104 hb; have n1_ := qR HO111 hb; have n2_ := Aside0.mk (Kd.R_elder' (by (with_reducible repeat (first | apply Kd.R_alloc | apply Kd.R_drewN | apply Kd.R_drew)); exact HO114.out) (Kd.R_base ho37) hb); have n3_ := Aside0.mk (Kd.R_elder' (by (with_reducible repeat (first | apply Kd.R_alloc | apply Kd.R_drewN | apply Kd.R_drew)); exact HO117.out) (Kd.R_base ho37) hb); have n4_ := Aside0.mk (Kd.R_elder' (by (with_reducible repeat (first | apply Kd.R_alloc | apply Kd.R_drewN | apply Kd.R_drew)); exact HO120.out) (Kd.R_base ho37) hb); have n5_ := Aside0.mk (Kd.R_elder' (by (with_reducible repeat (first | apply Kd.R_alloc | apply Kd.R_drewN | apply Kd.R_drew)); exact HO123.out) (Kd.R_base ho37) hb); have n6_ := Aside0.mk (Kd.R_lower (Kd.R_new' (Kd.R_new' (Kd.R_new' (Kd.R_new' ho37 (Kd.R_lt (by (with_reducible repeat (first | apply Kd.R_alloc | apply Kd.R_drewN | apply Kd.R_drew)); exact HO114.out))) (Kd.R_lt (by (with_reducible repeat (first | apply Kd.R_alloc | apply Kd.R_drewN | apply Kd.R_drew)); exact HO117.out))) (Kd.R_lt (by (with_reducible repeat (first | apply Kd.R_alloc | apply Kd.R_drewN | apply Kd.R_drew)); exact HO120.out))) (Kd.R_lt (by (with_reducible repeat (first | apply Kd.R_alloc | apply Kd.R_drewN | apply Kd.R_drew)); exact HO123.out))) (qZ HB)); have n7_ := qB BK105 hb; have n8_ := qB BK106 hb; have n9_ := qB BK107 hb; have n10_ := qB BK108 hb; have n11_ := qS HB hb; clear HO104; clear HO111; clear HO114; clear HO117; clear HO120; clear HO123; clear BK105; clear BK106; clear BK107; clear BK108; clear HB; have HO104 := n0_; have HO111 := n1_; have HO114 := n2_; have HO117 := n3_; have HO120 := n4_; have HO123 := n5_; have HO126 := n6_; have BK105 := n7_; have BK106 := n8_; have BK107 := n9_; have BK108 := n10_; have HB := n11_; clear n0_ n1_ n2_ n3_ n4_ n5_ n6_ n7_ n8_ n9_ n10_ n11_; clear hb ho37) | ((with_reducible refine gate_dst (N := 39) rfl ?_); refine Kd.R_lit k28 _ 28 ?hg (N := 39) ?hd (xs := ([(⟨(⟨#[116]⟩ : ByteArray), 8, (⟨0, 0, (⟨#[]⟩ : ByteArray)⟩ : S26), false, false⟩ : S28)] : List (S28))) (inner := [.string (⟨#[116]⟩ : ByteArray), .int .i64 8, .int .i64 0, .int .i64 0, .string (⟨#[]⟩ : ByteArray), .bool false, .bool false]) (ok := fun _ => True) (okp := fun _ => True) ?hr ?hp (fun _ hk => hk) trivial (Below.refl _ _) (Nat.le_refl _) (by simp) ?_; (case hd => rfl); (case hg => rfl); (case hr => first | (go_simp; done) | (go_simp; rfl)); (case hp => exact (Reps.c7 (show Kd.M k28 _ _ _ (⟨(⟨#[116]⟩ : ByteArray), 8, (⟨0, 0, (⟨#[]⟩ : ByteArray)⟩ : S26), false, false⟩ : S28) [.string (⟨#[116]⟩ : ByteArray), .int .i64 8, .int .i64 0, .int .i64 0, .string (⟨#[]⟩ : ByteArray), .bool false, .bool false] from (k28_mkM _ _ _ (⟨(⟨#[116]⟩ : ByteArray), 8, (⟨0, 0, (⟨#[]⟩ : ByteArray)⟩ : S26), false, false⟩ : S28) )) (Reps.none _ _))); intro v128 w38 ho39 hb hg_ hnew_; clear hg_ hnew_; (first | rw [← Ny127.out] at ho39 | (simp only [Int.reduceToNat] at ho39; rw [← Ny127.out] at ho39)); have n0_ := qR HO104 hb; have n1_ := qR HO111 hb; have n2_ := Aside0.mk (Kd.R_elder' (by (with_reducible repeat (first | apply Kd.R_alloc | apply Kd.R_drewN | apply Kd.R_drew)); exact HO114.out) (Kd.R_base ho39) hb); have n3_ := Aside0.mk (Kd.R_elder' (by (with_reducible repeat (first | apply Kd.R_alloc | apply Kd.R_drewN | apply Kd.R_drew)); exact HO117.out) (Kd.R_base ho39) hb); have n4_ := Aside0.mk (Kd.R_elder' (by (with_reducible repeat (first | apply Kd.R_alloc | apply Kd.R_drewN | apply Kd.R_drew)); exact HO120.out) (Kd.R_base ho39) hb); have n5_ := Aside0.mk (Kd.R_elder' (by (with_reducible repeat (first | apply Kd.R_alloc | apply Kd.R_drewN | apply Kd.R_drew)); exact HO123.out) (Kd.R_base ho39) hb); have n6_ := Aside0.mk (Kd.R_elder' (by (with_reducible repeat (first | apply Kd.R_alloc | apply Kd.R_drewN | apply Kd.R_drew)); exact HO126.out) (Kd.R_base ho39) hb); have n7_ := Aside0.mk (Kd.R_lower (Kd.R_new' (Kd.R_new' (Kd.R_new' (Kd.R_new' (Kd.R_new' ho39 (Kd.R_lt (by (with_reducible repeat (first | apply Kd.R_alloc | apply Kd.R_drewN | apply Kd.R_drew)); exact HO114.out))) (Kd.R_lt (by (with_reducible repeat (first | apply Kd.R_alloc | apply Kd.R_drewN | apply Kd.R_drew)); exact HO117.out))) (Kd.R_lt (by (with_reducible repeat (first | apply Kd.R_alloc | apply Kd.R_drewN | apply Kd.R_drew)); exact HO120.out))) (Kd.R_lt (by (with_reducible repeat (first | apply Kd.R_alloc | apply Kd.R_drewN | apply Kd.R_drew)); exact HO123.out))) (Kd.R_lt (by (with_reducible repeat (first | apply Kd.R_alloc | apply Kd.R_drewN | apply Kd.R_drew)); exact HO126.out))) (qZ HB)); have n8_ := qB BK105 hb; have n9_ := qB BK106 hb; have n10_ := qB BK107 hb; have n11_ := qB BK108 hb; have n12_ := qS HB hb; clear HO104; clear HO111; clear HO114; clear HO117; clear HO120; clear HO123; clear HO126; clear BK105; clear BK106; clear BK107; clear BK108; clear HB; have HO104 := n0_; have HO111 := n1_; have HO114 := n2_; have HO117 := n3_; have HO120 := n4_; have HO123 := n5_; have HO126 := n6_; have HO129 := n7_; have BK105 := n8_; have BK106 := n9_; have BK107 := n10_; have BK108 := n11_; have HB := n12_; clear n0_ n1_ n2_ n3_ n4_ n5_ n6_ n7_ n8_ n9_ n10_ n11_ n12_; clear hb ho39) | ((with_reducible refine gate_dst (N := 41) rfl ?_); refine Kd.R_lit k28 _ 28 ?hg (N := 41) ?hd (xs := ([(⟨(⟨#[116]⟩ : ByteArray), 8, (⟨0, 0, (⟨#[]⟩ : ByteArray)⟩ : S26), false, true⟩ : S28)] : List (S28))) (inner := [.string (⟨#[116]⟩ : ByteArray), .int .i64 8, .int .i64 0, .int .i64 0, .string (⟨#[]⟩ : ByteArray), .bool false, .bool true]) (ok := fun _ => True) (okp := fun _ => True) ?hr ?hp (fun _ hk => hk) trivial (Below.refl _ _) (Nat.le_refl _) (by simp) ?_; (case hd => rfl); (case hg => rfl); (case hr => first | (go_simp; done) | (go_simp; rfl)); (case hp => exact (Reps.c7 (show Kd.M k28 _ _ _ (⟨(⟨#[116]⟩ : ByteArray), 8, (⟨0, 0, (⟨#[]⟩ : ByteArray)⟩ : S26), false, true⟩ : S28) [.string (⟨#[116]⟩ : ByteArray), .int .i64 8, .int .i64 0, .int .i64 0, .string (⟨#[]⟩ : ByteArray), .bool false, .bool true] from (k28_mkM _ _ _ (⟨(⟨#[116]⟩ : ByteArray), 8, (⟨0, 0, (⟨#[]⟩ : ByteArray)⟩ : S26), false, true⟩ : S28) )) (Reps.none _ _))); intro v131 w40 ho41 hb hg_ hnew_; clear hg_ hnew_; (first | rw [← Ny130.out] at ho41 | (simp only [Int.reduceToNat] at ho41; rw [← Ny130.out] at ho41)); have n0_ := qR HO104 hb; have n1_ := qR HO111 hb; have n2_ := Aside0.mk (Kd.R_elder' (by (with_reducible repeat (first | apply Kd.R_alloc | apply Kd.R_drewN | apply Kd.R_drew)); exact HO114.out) (Kd.R_base ho41) hb); have n3_ := Aside0.mk (Kd.R_elder' (by (with_reducible repeat (first | apply Kd.R_alloc | apply Kd.R_drewN | apply Kd.R_drew)); exact HO117.out) (Kd.R_base ho41) hb); have n4_ := Aside0.mk (Kd.R_elder' (by (with_reducible repeat (first | apply Kd.R_alloc | apply Kd.R_drewN | apply Kd.R_drew)); exact HO120.out) (Kd.R_base ho41) hb); have n5_ := Aside0.mk (Kd.R_elder' (by (with_reducible repeat (first | apply Kd.R_alloc | apply Kd.R_drewN | apply Kd.R_drew)); exact HO123.out) (Kd.R_base ho41) hb); have n6_ := Aside0.mk (Kd.R_elder' (by (with_reducible repeat (first | apply Kd.R_alloc | apply Kd.R_drewN | apply Kd.R_drew)); exact HO126.out) (Kd.R_base ho41) hb); have n7_ := Aside0.mk (Kd.R_elder' (by (with_reducible repeat (first | apply Kd.R_alloc | apply Kd.R_drewN | apply Kd.R_drew)); exact HO129.out) (Kd.R_base ho41) hb); have n8_ := Aside0.mk (Kd.R_lower (Kd.R_new' (Kd.R_new' (Kd.R_new' (Kd.R_new' (Kd.R_new' (Kd.R_new' ho41 (Kd.R_lt (by (with_reducible repeat (first | apply Kd.R_alloc | apply Kd.R_drewN | apply Kd.R_drew)); exact HO114.out))) (Kd.R_lt (by (with_reducible repeat (first | apply Kd.R_alloc | apply Kd.R_drewN | apply Kd.R_drew)); exact HO117.out))) (Kd.R_lt (by (with_reducible repeat (first | apply Kd.R_alloc | apply Kd.R_drewN | apply Kd.R_drew)); exact HO120.out))) (Kd.R_lt (by (with_reducible repeat (first | apply Kd.R_alloc | apply Kd.R_drewN | apply Kd.R_drew)); exact HO123.out))) (Kd.R_lt (by (with_reducible repeat (first | apply Kd.R_alloc | apply Kd.R_drewN | apply Kd.R_drew)); exact HO126.out))) (Kd.R_lt (by (with_reducible repeat (first | apply Kd.R_alloc | apply Kd.R_drewN | apply Kd.R_drew)); exact HO129.out))) (qZ HB)); have n9_ := qB BK105 hb; have n10_ := qB BK106 hb; have n11_ := qB BK107 hb; have n12_ := qB BK108 hb; have n13_ := qS HB hb; clear HO104; clear HO111; clear HO114; clear HO117; clear HO120; clear HO123; clear HO126; clear HO129; clear BK105; clear BK106; clear BK107; clear BK108; clear HB; have HO104 := n0_; have HO111 := n1_; have HO114 := n2_; have HO117 := n3_; have HO120 := n4_; have HO123 := n5_; have HO126 := n6_; have HO129 := n7_; have HO132 := n8_; have BK105 := n9_; have BK106 := n10_; have BK107 := n11_; have BK108 := n12_; have HB := n13_; clear n0_ n1_ n2_ n3_ n4_ n5_ n6_ n7_ n8_ n9_ n10_ n11_ n12_ n13_; clear hb ho41; have hcz42_0 : w40.cell? ⟨gb108, 0, none⟩ = some (.int .i64 4) := (blk_cell BK108.out 0).trans rfl; have hcz42_1 : w40.cell? ⟨gb108, 1, none⟩ = some (.int .i64 0) := (blk_cell BK108.out 1).trans rfl; have hcz42_2 : w40.cell? ⟨gb108, 2, none⟩ = some (.string (⟨#[98]⟩ : ByteArray)) := (blk_cell BK108.out 2).trans rfl; have hfz42_0 := blk_frozen BK108.out 0; have hfz42_1 := blk_frozen BK108.out 1; have hfz42_2 := blk_frozen BK108.out 2) | ((with_reducible refine gate_dst (N := 44) rfl ?_); refine Kd.R_lit k28 _ 28 ?hg (N := 44) ?hd (xs := ([(⟨(⟨#[116]⟩ : ByteArray), 2, (⟨4, 0, (⟨#[98]⟩ : ByteArray)⟩ : S26), false, true⟩ : S28)] : List (S28))) (inner := [.string (⟨#[116]⟩ : ByteArray), .int .i64 2, .int .i64 4, .int .i64 0, .string (⟨#[98]⟩ : ByteArray), .bool false, .bool true]) (ok := fun _ => True) (okp := fun _ => True) ?hr ?hp (fun _ hk => hk) trivial (Below.refl _ _) (Nat.le_refl _) (by simp) ?_; (case hd => rfl); (case hg => rfl); (case hr => first | (go_simp; done) | (go_simp; rfl)); (case hp => exact (Reps.c7 (show Kd.M k28 _ _ _ (⟨(⟨#[116]⟩ : ByteArray), 2, (⟨4, 0, (⟨#[98]⟩ : ByteArray)⟩ : S26), false, true⟩ : S28) [.string (⟨#[116]⟩ : ByteArray), .int .i64 2, .int .i64 4, .int .i64 0, .string (⟨#[98]⟩ : ByteArray), .bool false, .bool true] from (k28_mkM _ _ _ (⟨(⟨#[116]⟩ : ByteArray), 2, (⟨4, 0, (⟨#[98]⟩ : ByteArray)⟩ : S26), false, true⟩ : S28) )) (Reps.none _ _))); intro v134 w43 ho44 hb hg_ hnew_; clear hg_ hnew_; (first | rw [← Ny133.out] at ho44 | (simp only [Int.reduceToNat] at ho44; rw [← Ny133.out] at ho44)); have n0_ := qR HO104 hb; have n1_ := qR HO111 hb; have n2_ := Aside0.mk (Kd.R_elder' (by (with_reducible repeat (first | apply Kd.R_alloc | apply Kd.R_drewN | apply Kd.R_drew)); exact HO114.out) (Kd.R_base ho44) hb); have n3_ := Aside0.mk (Kd.R_elder' (by (with_reducible repeat (first | apply Kd.R_alloc | apply Kd.R_drewN | apply Kd.R_drew)); exact HO117.out) (Kd.R_base ho44) hb); have n4_ := Aside0.mk (Kd.R_elder' (by (with_reducible repeat (first | apply Kd.R_alloc | apply Kd.R_drewN | apply Kd.R_drew)); exact HO120.out) (Kd.R_base ho44) hb); have n5_ := Aside0.mk (Kd.R_elder' (by (with_reducible repeat (first | apply Kd.R_alloc | apply Kd.R_drewN | apply Kd.R_drew)); exact HO123.out) (Kd.R_base ho44) hb); have n6_ := Aside0.mk (Kd.R_elder' (by (with_reducible repeat (first | apply Kd.R_alloc | apply Kd.R_drewN | apply Kd.R_drew)); exact HO126.out) (Kd.R_base ho44) hb); have n7_ := Aside0.mk (Kd.R_elder' (by (with_reducible repeat (first | apply Kd.R_alloc | apply Kd.R_drewN | apply Kd.R_drew)); exact HO129.out) (Kd.R_base ho44) hb); have n8_ := Aside0.mk (Kd.R_elder' (by (with_reducible repeat (first | apply Kd.R_alloc | apply Kd.R_drewN | apply Kd.R_drew)); exact HO132.out) (Kd.R_base ho44) hb); have n9_ := Aside0.mk (Kd.R_lower (Kd.R_new' (Kd.R_new' (Kd.R_new' (Kd.R_new' (Kd.R_new' (Kd.R_new' (Kd.R_new' ho44 (Kd.R_lt (by (with_reducible repeat (first | apply Kd.R_alloc | apply Kd.R_drewN | apply Kd.R_drew)); exact HO114.out))) (Kd.R_lt (by (with_reducible repeat (first | apply Kd.R_alloc | apply Kd.R_drewN | apply Kd.R_drew)); exact HO117.out))) (Kd.R_lt (by (with_reducible repeat (first | apply Kd.R_alloc | apply Kd.R_drewN | apply Kd.R_drew)); exact HO120.out))) (Kd.R_lt (by (with_reducible repeat (first | apply Kd.R_alloc | apply Kd.R_drewN | apply Kd.R_drew)); exact HO123.out))) (Kd.R_lt (by (with_reducible repeat (first | apply Kd.R_alloc | apply Kd.R_drewN | apply Kd.R_drew)); exact HO126.out))) (Kd.R_lt (by (with_reducible repeat (first | apply Kd.R_alloc | apply Kd.R_drewN | apply Kd.R_drew)); exact HO129.out))) (Kd.R_lt (by (with_reducible repeat (first | apply Kd.R_alloc | apply Kd.R_drewN | apply Kd.R_drew)); exact HO132.out))) (qZ HB)); have n10_ := qB BK105 hb; have n11_ := qB BK106 hb; have n12_ := qB BK107 hb; have n13_ := qB BK108 hb; have n14_ := qS HB hb; clear HO104; clear HO111; clear HO114; clear HO117; clear HO120; clear HO123; clear HO126; clear HO129; clear HO132; clear BK105; clear BK106; clear BK107; clear BK108; clear HB; have HO104 := n0_; have HO111 := n1_; have HO114 := n2_; have HO117 := n3_; have HO120 := n4_; have HO123 := n5_; have HO126 := n6_; have HO129 := n7_; have HO132 := n8_; have HO135 := n9_; have BK105 := n10_; have BK106 := n11_; have BK107 := n12_; have BK108 := n13_; have HB := n14_; clear n0_ n1_ n2_ n3_ n4_ n5_ n6_ n7_ n8_ n9_ n10_ n11_ n12_ n13_ n14_; clear hb ho44) | ((with_reducible refine gate_dst (N := 46) rfl ?_); refine Kd.R_lit k28 _ 28 ?hg (N := 46) ?hd (xs := ([(⟨(⟨#[105]⟩ : ByteArray), 1, (⟨0, 0, (⟨#[]⟩ : ByteArray)⟩ : S26), false, false⟩ : S28)] : List (S28))) (inner := [.string (⟨#[105]⟩ : ByteArray), .int .i64 1, .int .i64 0, .int .i64 0, .string (⟨#[]⟩ : ByteArray), .bool false, .bool false]) (ok := fun _ => True) (okp := fun _ => True) ?hr ?hp (fun _ hk => hk) trivial (Below.refl _ _) (Nat.le_refl _) (by simp) ?_; (case hd => rfl); (case hg => rfl); (case hr => first | (go_simp; done) | (go_simp; rfl)); (case hp => exact (Reps.c7 (show Kd.M k28 _ _ _ (⟨(⟨#[105]⟩ : ByteArray), 1, (⟨0, 0, (⟨#[]⟩ : ByteArray)⟩ : S26), false, false⟩ : S28) [.string (⟨#[105]⟩ : ByteArray), .int .i64 1, .int .i64 0, .int .i64 0, .string (⟨#[]⟩ : ByteArray), .bool false, .bool false] from (k28_mkM _ _ _ (⟨(⟨#[105]⟩ : ByteArray), 1, (⟨0, 0, (⟨#[]⟩ : ByteArray)⟩ : S26), false, false⟩ : S28) )) (Reps.none _ _))); intro v137 w45 ho46 hb hg_ hnew_; clear hg_ hnew_; (first | rw [← Ny136.out] at ho46 | (simp only [Int.reduceToNat] at ho46; rw [← Ny136.out] at ho46)); have n0_ := qR HO104 hb; have n1_ := qR HO111 hb; have n2_ := Aside0.mk (Kd.R_elder' (by (with_reducible repeat (first | apply Kd.R_alloc | apply Kd.R_drewN | apply Kd.R_drew)); exact HO114.out) (Kd.R_base ho46) hb); have n3_ := Aside0.mk (Kd.R_elder' (by (with_reducible repeat (first | apply Kd.R_alloc | apply Kd.R_drewN | apply Kd.R_drew)); exact HO117.out) (Kd.R_base ho46) hb); have n4_ := Aside0.mk (Kd.R_elder' (by (with_reducible repeat (first | apply Kd.R_alloc | apply Kd.R_drewN | apply Kd.R_drew)); exact HO120.out) (Kd.R_base ho46) hb); have n5_ := Aside0.mk (Kd.R_elder' (by (with_reducible repeat (first | apply Kd.R_alloc | apply Kd.R_drewN | apply Kd.R_drew)); exact HO123.out) (Kd.R_base ho46) hb); have n6_ := Aside0.mk (Kd.R_elder' (by (with_reducible repeat (first | apply Kd.R_alloc | apply Kd.R_drewN | apply Kd.R_drew)); exact HO126.out) (Kd.R_base ho46) hb); have n7_ := Aside0.mk (Kd.R_elder' (by (with_reducible repeat (first | apply Kd.R_alloc | apply Kd.R_drewN | apply Kd.R_drew)); exact HO129.out) (Kd.R_base ho46) hb); have n8_ := Aside0.mk (Kd.R_elder' (by (with_reducible repeat (first | apply Kd.R_alloc | apply Kd.R_drewN | apply Kd.R_drew)); exact HO132.out) (Kd.R_base ho46) hb); have n9_ := Aside0.mk (Kd.R_elder' (by (with_reducible repeat (first | apply Kd.R_alloc | apply Kd.R_drewN | apply Kd.R_drew)); exact HO135.out) (Kd.R_base ho46) hb); have n10_ := Aside0.mk (Kd.R_lower (Kd.R_new' (Kd.R_new' (Kd.R_new' (Kd.R_new' (Kd.R_new' (Kd.R_new' (Kd.R_new' (Kd.R_new' ho46 (Kd.R_lt (by (with_reducible repeat (first | apply Kd.R_alloc | apply Kd.R_drewN | apply Kd.R_drew)); exact HO114.out))) (Kd.R_lt (by (with_reducible repeat (first | apply Kd.R_alloc | apply Kd.R_drewN | apply Kd.R_drew)); exact HO117.out))) (Kd.R_lt (by (with_reducible repeat (first | apply Kd.R_alloc | apply Kd.R_drewN | apply Kd.R_drew)); exact HO120.out))) (Kd.R_lt (by (with_reducible repeat (first | apply Kd.R_alloc | apply Kd.R_drewN | apply Kd.R_drew)); exact HO123.out))) (Kd.R_lt (by (with_reducible repeat (first | apply Kd.R_alloc | apply Kd.R_drewN | apply Kd.R_drew)); exact HO126.out))) (Kd.R_lt (by (with_reducible repeat (first | apply Kd.R_alloc | apply Kd.R_drewN | apply Kd.R_drew)); exact HO129.out))) (Kd.R_lt (by (with_reducible repeat (first | apply Kd.R_alloc | apply Kd.R_drewN | apply Kd.R_drew)); exact HO132.out))) (Kd.R_lt (by (with_reducible repeat (first | apply Kd.R_alloc | apply Kd.R_drewN | apply Kd.R_drew)); exact HO135.out))) (qZ HB)); have n11_ := qB BK105 hb; have n12_ := qB BK106 hb; have n13_ := qB BK107 hb; have n14_ := qB BK108 hb; have n15_ := qS HB hb; clear HO104; clear HO111; clear HO114; clear HO117; clear HO120; clear HO123; clear HO126; clear HO129; clear HO132; clear HO135; clear BK105; clear BK106; clear BK107; clear BK108; clear HB; have HO104 := n0_; have HO111 := n1_; have HO114 := n2_; have HO117 := n3_; have HO120 := n4_; have HO123 := n5_; have HO126 := n6_; have HO129 := n7_; have HO132 := n8_; have HO135 := n9_; have HO138 := n10_; have BK105 := n11_; have BK106 := n12_; have BK107 := n13_; have BK108 := n14_; have HB := n15_; clear n0_ n1_ n2_ n3_ n4_ n5_ n6_ n7_ n8_ n9_ n10_ n11_ n12_ n13_ n14_ n15_; clear hb ho46; have hcz47_0 : w45.cell? ⟨gb107, 0, none⟩ = some (.int .i64 1) := (blk_cell BK107.out 0).trans rfl; have hcz47_1 : w45.cell? ⟨gb107, 1, none⟩ = some (.int .i64 2) := (blk_cell BK107.out 1).trans rfl; have hcz47_2 : w45.cell? ⟨gb107, 2, none⟩ = some (.string (⟨#[]⟩ : ByteArray)) := (blk_cell BK107.out 2).trans rfl; have hfz47_0 := blk_frozen BK107.out 0; have hfz47_1 := blk_frozen BK107.out 1; have hfz47_2 := blk_frozen BK107.out 2; have hcz48_0 : w45.cell? ⟨gb108, 0, none⟩ = some (.int .i64 4) := (blk_cell BK108.out 0).trans rfl; have hcz48_1 : w45.cell? ⟨gb108, 1, none⟩ = some (.int .i64 0) := (blk_cell BK108.out 1).trans rfl; have hcz48_2 : w45.cell? ⟨gb108, 2, none⟩ = some (.string (⟨#[98]⟩ : ByteArray)) := (blk_cell BK108.out 2).trans rfl; have hfz48_0 := blk_frozen BK108.out 0; have hfz48_1 := blk_frozen BK108.out 1; have hfz48_2 := blk_frozen BK108.out 2) | ((with_reducible refine gate_dst (N := 51) rfl ?_); refine Kd.R_lit k28 _ 28 ?hg (N := 51) ?hd (xs := ([(⟨(⟨#[105]⟩ : ByteArray), 1, (⟨1, 2, (⟨#[]⟩ : ByteArray)⟩ : S26), false, false⟩ : S28), (⟨(⟨#[116]⟩ : ByteArray), 1, (⟨4, 0, (⟨#[98]⟩ : ByteArray)⟩ : S26), true, false⟩ : S28)] : List (S28))) (inner := [.string (⟨#[105]⟩ : ByteArray), .int .i64 1, .int .i64 1, .int .i64 2, .string (⟨#[]⟩ : ByteArray), .bool false, .bool false, .string (⟨#[116]⟩ : ByteArray), .int .i64 1, .int .i64 4, .int .i64 0, .string (⟨#[98]⟩ : ByteArray), .bool true, .bool false]) (ok := fun _ => True) (okp := fun _ => True) ?hr ?hp (fun _ hk => hk) trivial (Below.refl _ _) (Nat.le_refl _) (by simp) ?_; (case hd => rfl); (case hg => rfl); (case hr => first | (go_simp; done) | (go_simp; rfl)); (case hp => exact (Reps.c7 (show Kd.M k28 _ _ _ (⟨(⟨#[105]⟩ : ByteArray), 1, (⟨1, 2, (⟨#[]⟩ : ByteArray)⟩ : S26), false, false⟩ : S28) [.string (⟨#[105]⟩ : ByteArray), .int .i64 1, .int .i64 1, .int .i64 2, .string (⟨#[]⟩ : ByteArray), .bool false, .bool false] from (k28_mkM _ _ _ (⟨(⟨#[105]⟩ : ByteArray), 1, (⟨1, 2, (⟨#[]⟩ : ByteArray)⟩ : S26), false, false⟩ : S28) )) (Reps.c7 (show Kd.M k28 _ _ _ (⟨(⟨#[116]⟩ : ByteArray), 1, (⟨4, 0, (⟨#[98]⟩ : ByteArray)⟩ : S26), true, false⟩ : S28) [.string (⟨#[116]⟩ : ByteArray), .int .i64 1, .int .i64 4, .int .i64 0, .string (⟨#[98]⟩ : ByteArray), .bool true, .bool false] from (k28_mkM _ _ _ (⟨(⟨#[116]⟩ : ByteArray), 1, (⟨4, 0, (⟨#[98]⟩ : ByteArray)⟩ : S26), true, false⟩ : S28) )) (Reps.none _ _)))); intro v140 w49 ho50 hb hg_ hnew_; clear hg_ hnew_; (first | rw [← Ny139.out] at ho50 | (simp only [Int.reduceToNat] at ho50; rw [← Ny139.out] at ho50)); have n0_ := qR HO104 hb; have n1_ := qR HO111 hb; have n2_ := Aside0.mk (Kd.R_elder' (by (with_reducible repeat (first | apply Kd.R_alloc | apply Kd.R_drewN | apply Kd.R_drew)); exact HO114.out) (Kd.R_base ho50) hb); have n3_ := Aside0.mk (Kd.R_elder' (by (with_reducible repeat (first | apply Kd.R_alloc | apply Kd.R_drewN | apply Kd.R_drew)); exact HO117.out) (Kd.R_base ho50) hb); have n4_ := Aside0.mk (Kd.R_elder' (by (with_reducible repeat (first | apply Kd.R_alloc | apply Kd.R_drewN | apply Kd.R_drew)); exact HO120.out) (Kd.R_base ho50) hb); have n5_ := Aside0.mk (Kd.R_elder' (by (with_reducible repeat (first | apply Kd.R_alloc | apply Kd.R_drewN | apply Kd.R_drew)); exact HO123.out) (Kd.R_base ho50) hb); have n6_ := Aside0.mk (Kd.R_elder' (by (with_reducible repeat (first | apply Kd.R_alloc | apply Kd.R_drewN | apply Kd.R_drew)); exact HO126.out) (Kd.R_base ho50) hb); have n7_ := Aside0.mk (Kd.R_elder' (by (with_reducible repeat (first | apply Kd.R_alloc | apply Kd.R_drewN | apply Kd.R_drew)); exact HO129.out) (Kd.R_base ho50) hb); have n8_ := Aside0.mk (Kd.R_elder' (by (with_reducible repeat (first | apply Kd.R_alloc | apply Kd.R_drewN | apply Kd.R_drew)); exact HO132.out) (Kd.R_base ho50) hb); have n9_ := Aside0.mk (Kd.R_elder' (by (with_reducible repeat (first | apply Kd.R_alloc | apply Kd.R_drewN | apply Kd.R_drew)); exact HO135.out) (Kd.R_base ho50) hb); have n10_ := Aside0.mk (Kd.R_elder' (by (with_reducible repeat (first | apply Kd.R_alloc | apply Kd.R_drewN | apply Kd.R_drew)); exact HO138.out) (Kd.R_base ho50) hb); have n11_ := Aside0.mk (Kd.R_lower (Kd.R_new' (Kd.R_new' (Kd.R_new' (Kd.R_new' (Kd.R_new' (Kd.R_new' (Kd.R_new' (Kd.R_new' (Kd.R_new' ho50 (Kd.R_lt (by (with_reducible repeat (first | apply Kd.R_alloc | apply Kd.R_drewN | apply Kd.R_drew)); exact HO114.out))) (Kd.R_lt (by (with_reducible repeat (first | apply Kd.R_alloc | apply Kd.R_drewN | apply Kd.R_drew)); exact HO117.out))) (Kd.R_lt (by (with_reducible repeat (first | apply Kd.R_alloc | apply Kd.R_drewN | apply Kd.R_drew)); exact HO120.out))) (Kd.R_lt (by (with_reducible repeat (first | apply Kd.R_alloc | apply Kd.R_drewN | apply Kd.R_drew)); exact HO123.out))) (Kd.R_lt (by (with_reducible repeat (first | apply Kd.R_alloc | apply Kd.R_drewN | apply Kd.R_drew)); exact HO126.out))) (Kd.R_lt (by (with_reducible repeat (first | apply Kd.R_alloc | apply Kd.R_drewN | apply Kd.R_drew)); exact HO129.out))) (Kd.R_lt (by (with_reducible repeat (first | apply Kd.R_alloc | apply Kd.R_drewN | apply Kd.R_drew)); exact HO132.out))) (Kd.R_lt (by (with_reducible repeat (first | apply Kd.R_alloc | apply Kd.R_drewN | apply Kd.R_drew)); exact HO135.out))) (Kd.R_lt (by (with_reducible repeat (first | apply Kd.R_alloc | apply Kd.R_drewN | apply Kd.R_drew)); exact HO138.out))) (qZ HB)); have n12_ := qB BK105 hb; have n13_ := qB BK106 hb; have n14_ := qB BK107 hb; have n15_ := qB BK108 hb; have n16_ := qS HB hb; clear HO104; clear HO111; clear HO114; clear HO117; clear HO120; clear HO123; clear HO126; clear HO129; clear HO132; clear HO135; clear HO138; clear BK105; clear BK106; clear BK107; clear BK108; clear HB; have HO104 := n0_; have HO111 := n1_; have HO114 := n2_; have HO117 := n3_; have HO120 := n4_; have HO123 := n5_; have HO126 := n6_; have HO129 := n7_; have HO132 := n8_; have HO135 := n9_; have HO138 := n10_; have HO141 := n11_; have BK105 := n12_; have BK106 := n13_; have BK107 := n14_; have BK108 := n15_; have HB := n16_; clear n0_ n1_ n2_ n3_ n4_ n5_ n6_ n7_ n8_ n9_ n10_ n11_ n12_ n13_ n14_ n15_ n16_; clear hb ho50; have hcz51_0 : w49.cell? ⟨gb106, 0, none⟩ = some (.int .i64 2) := (blk_cell BK106.out 0).trans rfl; have hcz51_1 : w49.cell? ⟨gb106, 1, none⟩ = some (.int .i64 1) := (blk_cell BK106.out 1).trans rfl; have hcz51_2 : w49.cell? ⟨gb106, 2, none⟩ = some (.string (⟨#[]⟩ : ByteArray)) := (blk_cell BK106.out 2).trans rfl; have hfz51_0 := blk_frozen BK106.out 0; have hfz51_1 := blk_frozen BK106.out 1; have hfz51_2 := blk_frozen BK106.out 2; have hcz52_0 : w49.cell? ⟨gb108, 0, none⟩ = some (.int .i64 4) := (blk_cell BK108.out 0).trans rfl; have hcz52_1 : w49.cell? ⟨gb108, 1, none⟩ = some (.int .i64 0) := (blk_cell BK108.out 1).trans rfl; have hcz52_2 : w49.cell? ⟨gb108, 2, none⟩ = some (.string (⟨#[98]⟩ : ByteArray)) := (blk_cell BK108.out 2).trans rfl; have hfz52_0 := blk_frozen BK108.out 0; have hfz52_1 := blk_frozen BK108.out 1; have hfz52_2 := blk_frozen BK108.out 2) | ((with_reducible refine gate_dst (N := 56) rfl ?_); refine Kd.R_lit k28 _ 28 ?hg (N := 56) ?hd (xs := ([(⟨(⟨#[105]⟩ : ByteArray), 1, (⟨2, 1, (⟨#[]⟩ : ByteArray)⟩ : S26), false, false⟩ : S28), (⟨(⟨#[116]⟩ : ByteArray), 1, (⟨4, 0, (⟨#[98]⟩ : ByteArray)⟩ : S26), false, false⟩ : S28)] : List (S28))) (inner := [.string (⟨#[105]⟩ : ByteArray), .int .i64 1, .int .i64 2, .int .i64 1, .string (⟨#[]⟩ : ByteArray), .bool false, .bool false, .string (⟨#[116]⟩ : ByteArray), .int .i64 1, .int .i64 4, .int .i64 0, .string (⟨#[98]⟩ : ByteArray), .bool false, .bool false]) (ok := fun _ => True) (okp := fun _ => True) ?hr ?hp (fun _ hk => hk) trivial (Below.refl _ _) (Nat.le_refl _) (by simp) ?_; (case hd => rfl); (case hg => rfl); (case hr => first | (go_simp; done) | (go_simp; rfl)); (case hp => exact (Reps.c7 (show Kd.M k28 _ _ _ (⟨(⟨#[105]⟩ : ByteArray), 1, (⟨2, 1, (⟨#[]⟩ : ByteArray)⟩ : S26), false, false⟩ : S28) [.string (⟨#[105]⟩ : ByteArray), .int .i64 1, .int .i64 2, .int .i64 1, .string (⟨#[]⟩ : ByteArray), .bool false, .bool false] from (k28_mkM _ _ _ (⟨(⟨#[105]⟩ : ByteArray), 1, (⟨2, 1, (⟨#[]⟩ : ByteArray)⟩ : S26), false, false⟩ : S28) )) (Reps.c7 (show Kd.M k28 _ _ _ (⟨(⟨#[116]⟩ : ByteArray), 1, (⟨4, 0, (⟨#[98]⟩ : ByteArray)⟩ : S26), false, false⟩ : S28) [.string (⟨#[116]⟩ : ByteArray), .int .i64 1, .int .i64 4, .int .i64 0, .string (⟨#[98]⟩ : ByteArray), .bool false, .bool false] from (k28_mkM _ _ _ (⟨(⟨#[116]⟩ : ByteArray), 1, (⟨4, 0, (⟨#[98]⟩ : ByteArray)⟩ : S26), false, false⟩ : S28) )) (Reps.none _ _)))); intro v143 w53 ho54 hb hg_ hnew_; clear hg_ hnew_; (first | rw [← Ny142.out] at ho54 | (simp only [Int.reduceToNat] at ho54; rw [← Ny142.out] at ho54)); have n0_ := qR HO104 hb; have n1_ := qR HO111 hb; have n2_ := Aside0.mk (Kd.R_elder' (by (with_reducible repeat (first | apply Kd.R_alloc | apply Kd.R_drewN | apply Kd.R_drew)); exact HO114.out) (Kd.R_base ho54) hb); have n3_ := Aside0.mk (Kd.R_elder' (by (with_reducible repeat (first | apply Kd.R_alloc | apply Kd.R_drewN | apply Kd.R_drew)); exact HO117.out) (Kd.R_base ho54) hb); have n4_ := Aside0.mk (Kd.R_elder' (by (with_reducible repeat (first | apply Kd.R_alloc | apply Kd.R_drewN | apply Kd.R_drew)); exact HO120.out) (Kd.R_base ho54) hb); have n5_ := Aside0.mk (Kd.R_elder' (by (with_reducible repeat (first | apply Kd.R_alloc | apply Kd.R_drewN | apply Kd.R_drew)); exact HO123.out) (Kd.R_base ho54) hb); have n6_ := Aside0.mk (Kd.R_elder' (by (with_reducible repeat (first | apply Kd.R_alloc | apply Kd.R_drewN | apply Kd.R_drew)); exact HO126.out) (Kd.R_base ho54) hb); have n7_ := Aside0.mk (Kd.R_elder' (by (with_reducible repeat (first | apply Kd.R_alloc | apply Kd.R_drewN | apply Kd.R_drew)); exact HO129.out) (Kd.R_base ho54) hb); have n8_ := Aside0.mk (Kd.R_elder' (by (with_reducible repeat (first | apply Kd.R_alloc | apply Kd.R_drewN | apply Kd.R_drew)); exact HO132.out) (Kd.R_base ho54) hb); have n9_ := Aside0.mk (Kd.R_elder' (by (with_reducible repeat (first | apply Kd.R_alloc | apply Kd.R_drewN | apply Kd.R_drew)); exact HO135.out) (Kd.R_base ho54) hb); have n10_ := Aside0.mk (Kd.R_elder' (by (with_reducible repeat (first | apply Kd.R_alloc | apply Kd.R_drewN | apply Kd.R_drew)); exact HO138.out) (Kd.R_base ho54) hb); have n11_ := Aside0.mk (Kd.R_elder' (by (with_reducible repeat (first | apply Kd.R_alloc | apply Kd.R_drewN | apply Kd.R_drew)); exact HO141.out) (Kd.R_base ho54) hb); have n12_ := Aside0.mk (Kd.R_lower (Kd.R_new' (Kd.R_new' (Kd.R_new' (Kd.R_new' (Kd.R_new' (Kd.R_new' (Kd.R_new' (Kd.R_new' (Kd.R_new' (Kd.R_new' ho54 (Kd.R_lt (by (with_reducible repeat (first | apply Kd.R_alloc | apply Kd.R_drewN | apply Kd.R_drew)); exact HO114.out))) (Kd.R_lt (by (with_reducible repeat (first | apply Kd.R_alloc | apply Kd.R_drewN | apply Kd.R_drew)); exact HO117.out))) (Kd.R_lt (by (with_reducible repeat (first | apply Kd.R_alloc | apply Kd.R_drewN | apply Kd.R_drew)); exact HO120.out))) (Kd.R_lt (by (with_reducible repeat (first | apply Kd.R_alloc | apply Kd.R_drewN | apply Kd.R_drew)); exact HO123.out))) (Kd.R_lt (by (with_reducible repeat (first | apply Kd.R_alloc | apply Kd.R_drewN | apply Kd.R_drew)); exact HO126.out))) (Kd.R_lt (by (with_reducible repeat (first | apply Kd.R_alloc | apply Kd.R_drewN | apply Kd.R_drew)); exact HO129.out))) (Kd.R_lt (by (with_reducible repeat (first | apply Kd.R_alloc | apply Kd.R_drewN | apply Kd.R_drew)); exact HO132.out))) (Kd.R_lt (by (with_reducible repeat (first | apply Kd.R_alloc | apply Kd.R_drewN | apply Kd.R_drew)); exact HO135.out))) (Kd.R_lt (by (with_reducible repeat (first | apply Kd.R_alloc | apply Kd.R_drewN | apply Kd.R_drew)); exact HO138.out))) (Kd.R_lt (by (with_reducible repeat (first | apply Kd.R_alloc | apply Kd.R_drewN | apply Kd.R_drew)); exact HO141.out))) (qZ HB)); have n13_ := qB BK105 hb; have n14_ := qB BK106 hb; have n15_ := qB BK107 hb; have n16_ := qB BK108 hb; have n17_ := qS HB hb; clear HO104; clear HO111; clear HO114; clear HO117; clear HO120; clear HO123; clear HO126; clear HO129; clear HO132; clear HO135; clear HO138; clear HO141; clear BK105; clear BK106; clear BK107; clear BK108; clear HB; have HO104 := n0_; have HO111 := n1_; have HO114 := n2_; have HO117 := n3_; have HO120 := n4_; have HO123 := n5_; have HO126 := n6_; have HO129 := n7_; have HO132 := n8_; have HO135 := n9_; have HO138 := n10_; have HO141 := n11_; have HO144 := n12_; have BK105 := n13_; have BK106 := n14_; have BK107 := n15_; have BK108 := n16_; have HB := n17_; clear n0_ n1_ n2_ n3_ n4_ n5_ n6_ n7_ n8_ n9_ n10_ n11_ n12_ n13_ n14_ n15_ n16_ n17_; clear hb ho54; have hcz55_0 : w53.cell? ⟨gb107, 0, none⟩ = some (.int .i64 1) := (blk_cell BK107.out 0).trans rfl; have hcz55_1 : w53.cell? ⟨gb107, 1, none⟩ = some (.int .i64 2) := (blk_cell BK107.out 1).trans rfl; have hcz55_2 : w53.cell? ⟨gb107, 2, none⟩ = some (.string (⟨#[]⟩ : ByteArray)) := (blk_cell BK107.out 2).trans rfl; have hfz55_0 := blk_frozen BK107.out 0; have hfz55_1 := blk_frozen BK107.out 1; have hfz55_2 := blk_frozen BK107.out 2; have hcz56_0 : w53.cell? ⟨gb108, 0, none⟩ = some (.int .i64 4) := (blk_cell BK108.out 0).trans rfl; have hcz56_1 : w53.cell? ⟨gb108, 1, none⟩ = some (.int .i64 0) := (blk_cell BK108.out 1).trans rfl; have hcz56_2 : w53.cell? ⟨gb108, 2, none⟩ = some (.string (⟨#[98]⟩ : ByteArray)) := (blk_cell BK108.out 2).trans rfl; have hfz56_0 := blk_frozen BK108.out 0; have hfz56_1 := blk_frozen BK108.out 1; have hfz56_2 := blk_frozen BK108.out 2) | ((with_reducible refine gate_dst (N := 61) rfl ?_); refine Kd.R_lit k28 _ 28 ?hg (N := 61) ?hd (xs := ([(⟨(⟨#[105]⟩ : ByteArray), 1, (⟨1, 2, (⟨#[]⟩ : ByteArray)⟩ : S26), false, false⟩ : S28), (⟨(⟨#[116]⟩ : ByteArray), 1, (⟨4, 0, (⟨#[98]⟩ : ByteArray)⟩ : S26), false, false⟩ : S28)] : List (S28))) (inner := [.string (⟨#[105]⟩ : ByteArray), .int .i64 1, .int .i64 1, .int .i64 2, .string (⟨#[]⟩ : ByteArray), .bool false, .bool false, .string (⟨#[116]⟩ : ByteArray), .int .i64 1, .int .i64 4, .int .i64 0, .string (⟨#[98]⟩ : ByteArray), .bool false, .bool false]) (ok := fun _ => True) (okp := fun _ => True) ?hr ?hp (fun _ hk => hk) trivial (Below.refl _ _) (Nat.le_refl _) (by simp) ?_; (case hd => rfl); (case hg => rfl); (case hr => first | (go_simp; done) | (go_simp; rfl)); (case hp => exact (Reps.c7 (show Kd.M k28 _ _ _ (⟨(⟨#[105]⟩ : ByteArray), 1, (⟨1, 2, (⟨#[]⟩ : ByteArray)⟩ : S26), false, false⟩ : S28) [.string (⟨#[105]⟩ : ByteArray), .int .i64 1, .int .i64 1, .int .i64 2, .string (⟨#[]⟩ : ByteArray), .bool false, .bool false] from (k28_mkM _ _ _ (⟨(⟨#[105]⟩ : ByteArray), 1, (⟨1, 2, (⟨#[]⟩ : ByteArray)⟩ : S26), false, false⟩ : S28) )) (Reps.c7 (show Kd.M k28 _ _ _ (⟨(⟨#[116]⟩ : ByteArray), 1, (⟨4, 0, (⟨#[98]⟩ : ByteArray)⟩ : S26), false, false⟩ : S28) [.string (⟨#[116]⟩ : ByteArray), .int .i64 1, .int .i64 4, .int .i64 0, .string (⟨#[98]⟩ : ByteArray), .bool false, .bool false] from (k28_mkM _ _ _ (⟨(⟨#[116]⟩ : ByteArray), 1, (⟨4, 0, (⟨#[98]⟩ : ByteArray)⟩ : S26), false, false⟩ : S28) )) (Reps.none _ _)))); intro v146 w57 ho58 hb hg_ hnew_; clear hg_ hnew_; (first | rw [← Ny145.out] at ho58 | (simp only [Int.reduceToNat] at ho58; rw [← Ny145.out] at ho58)); have n0_ := qR HO104 hb; have n1_ := qR HO111 hb; have n2_ := Aside0.mk (Kd.R_elder' (by (with_reducible repeat (first | apply Kd.R_alloc | apply Kd.R_drewN | apply Kd.R_drew)); exact HO114.out) (Kd.R_base ho58) hb); have n3_ := Aside0.mk (Kd.R_elder' (by (with_reducible repeat (first | apply Kd.R_alloc | apply Kd.R_drewN | apply Kd.R_drew)); exact HO117.out) (Kd.R_base ho58) hb); have n4_ := Aside0.mk (Kd.R_elder' (by (with_reducible repeat (first | apply Kd.R_alloc | apply Kd.R_drewN | apply Kd.R_drew)); exact HO120.out) (Kd.R_base ho58) hb); have n5_ := Aside0.mk (Kd.R_elder' (by (with_reducible repeat (first | apply Kd.R_alloc | apply Kd.R_drewN | apply Kd.R_drew)); exact HO123.out) (Kd.R_base ho58) hb); have n6_ := Aside0.mk (Kd.R_elder' (by (with_reducible repeat (first | apply Kd.R_alloc | apply Kd.R_drewN | apply Kd.R_drew)); exact HO126.out) (Kd.R_base ho58) hb); have n7_ := Aside0.mk (Kd.R_elder' (by (with_reducible repeat (first | apply Kd.R_alloc | apply Kd.R_drewN | apply Kd.R_drew)); exact HO129.out) (Kd.R_base ho58) hb); have n8_ := Aside0.mk (Kd.R_elder' (by (with_reducible repeat (first | apply Kd.R_alloc | apply Kd.R_drewN | apply Kd.R_drew)); exact HO132.out) (Kd.R_base ho58) hb); have n9_ := Aside0.mk (Kd.R_elder' (by (with_reducible repeat (first | apply Kd.R_alloc | apply Kd.R_drewN | apply Kd.R_drew)); exact HO135.out) (Kd.R_base ho58) hb); have n10_ := Aside0.mk (Kd.R_elder' (by (with_reducible repeat (first | apply Kd.R_alloc | apply Kd.R_drewN | apply Kd.R_drew)); exact HO138.out) (Kd.R_base ho58) hb); have n11_ := Aside0.mk (Kd.R_elder' (by (with_reducible repeat (first | apply Kd.R_alloc | apply Kd.R_drewN | apply Kd.R_drew)); exact HO141.out) (Kd.R_base ho58) hb); have n12_ := Aside0.mk (Kd.R_elder' (by (with_reducible repeat (first | apply Kd.R_alloc | apply Kd.R_drewN | apply Kd.R_drew)); exact HO144.out) (Kd.R_base ho58) hb); have n13_ := Aside0.mk (Kd.R_lower (Kd.R_new' (Kd.R_new' (Kd.R_new' (Kd.R_new' (Kd.R_new' (Kd.R_new' (Kd.R_new' (Kd.R_new' (Kd.R_new' (Kd.R_new' (Kd.R_new' ho58 (Kd.R_lt (by (with_reducible repeat (first | apply Kd.R_alloc | apply Kd.R_drewN | apply Kd.R_drew)); exact HO114.out))) (Kd.R_lt (by (with_reducible repeat (first | apply Kd.R_alloc | apply Kd.R_drewN | apply Kd.R_drew)); exact HO117.out))) (Kd.R_lt (by (with_reducible repeat (first | apply Kd.R_alloc | apply Kd.R_drewN | apply Kd.R_drew)); exact HO120.out))) (Kd.R_lt (by (with_reducible repeat (first | apply Kd.R_alloc | apply Kd.R_drewN | apply Kd.R_drew)); exact HO123.out))) (Kd.R_lt (by (with_reducible repeat (first | apply Kd.R_alloc | apply Kd.R_drewN | apply Kd.R_drew)); exact HO126.out))) (Kd.R_lt (by (with_reducible repeat (first | apply Kd.R_alloc | apply Kd.R_drewN | apply Kd.R_drew)); exact HO129.out))) (Kd.R_lt (by (with_reducible repeat (first | apply Kd.R_alloc | apply Kd.R_drewN | apply Kd.R_drew)); exact HO132.out))) (Kd.R_lt (by (with_reducible repeat (first | apply Kd.R_alloc | apply Kd.R_drewN | apply Kd.R_drew)); exact HO135.out))) (Kd.R_lt (by (with_reducible repeat (first | apply Kd.R_alloc | apply Kd.R_drewN | apply Kd.R_drew)); exact HO138.out))) (Kd.R_lt (by (with_reducible repeat (first | apply Kd.R_alloc | apply Kd.R_drewN | apply Kd.R_drew)); exact HO141.out))) (Kd.R_lt (by (with_reducible repeat (first | apply Kd.R_alloc | apply Kd.R_drewN | apply Kd.R_drew)); exact HO144.out))) (qZ HB)); have n14_ := qB BK105 hb; have n15_ := qB BK106 hb; have n16_ := qB BK107 hb; have n17_ := qB BK108 hb; have n18_ := qS HB hb; clear HO104; clear HO111; clear HO114; clear HO117; clear HO120; clear HO123; clear HO126; clear HO129; clear HO132; clear HO135; clear HO138; clear HO141; clear HO144; clear BK105; clear BK106; clear BK107; clear BK108; clear HB; have HO104 := n0_; have HO111 := n1_; have HO114 := n2_; have HO117 := n3_; have HO120 := n4_; have HO123 := n5_; have HO126 := n6_; have HO129 := n7_; have HO132 := n8_; have HO135 := n9_; have HO138 := n10_; have HO141 := n11_; have HO144 := n12_; have HO147 := n13_; have BK105 := n14_; have BK106 := n15_; have BK107 := n16_; have BK108 := n17_; have HB := n18_; clear n0_ n1_ n2_ n3_ n4_ n5_ n6_ n7_ n8_ n9_ n10_ n11_ n12_ n13_ n14_ n15_ n16_ n17_ n18_; clear hb ho58; have hcz59_0 : w57.cell? ⟨gb108, 0, none⟩ = some (.int .i64 4) := (blk_cell BK108.out 0).trans rfl; have hcz59_1 : w57.cell? ⟨gb108, 1, none⟩ = some (.int .i64 0) := (blk_cell BK108.out 1).trans rfl; have hcz59_2 : w57.cell? ⟨gb108, 2, none⟩ = some (.string (⟨#[98]⟩ : ByteArray)) := (blk_cell BK108.out 2).trans rfl; have hfz59_0 := blk_frozen BK108.out 0; have hfz59_1 := blk_frozen BK108.out 1; have hfz59_2 := blk_frozen BK108.out 2; have hcz60_0 : w57.cell? ⟨gb107, 0, none⟩ = some (.int .i64 1) := (blk_cell BK107.out 0).trans rfl; have hcz60_1 : w57.cell? ⟨gb107, 1, none⟩ = some (.int .i64 2) := (blk_cell BK107.out 1).trans rfl; have hcz60_2 : w57.cell? ⟨gb107, 2, none⟩ = some (.string (⟨#[]⟩ : ByteArray)) := (blk_cell BK107.out 2).trans rfl; have hfz60_0 := blk_frozen BK107.out 0; have hfz60_1 := blk_frozen BK107.out 1; have hfz60_2 := blk_frozen BK107.out 2; have hcz61_0 : w57.cell? ⟨gb106, 0, none⟩ = some (.int .i64 2) := (blk_cell BK106.out 0).trans rfl; have hcz61_1 : w57.cell? ⟨gb106, 1, none⟩ = some (.int .i64 1) := (blk_cell BK106.out 1).trans rfl; have hcz61_2 : w57.cell? ⟨gb106, 2, none⟩ = some (.string (⟨#[]⟩ : ByteArray)) := (blk_cell BK106.out 2).trans rfl; have hfz61_0 := blk_frozen BK106.out 0; have hfz61_1 := blk_frozen BK106.out 1; have hfz61_2 := blk_frozen BK106.out 2) | ((with_reducible refine gate_dst (N := 68) rfl ?_); refine Kd.R_lit k28 _ 28 ?hg (N := 68) ?hd (xs := ([(⟨(⟨#[116]⟩ : ByteArray), 1, (⟨4, 0, (⟨#[98]⟩ : ByteArray)⟩ : S26), false, false⟩ : S28), (⟨(⟨#[105]⟩ : ByteArray), 1, (⟨1, 2, (⟨#[]⟩ : ByteArray)⟩ : S26), false, false⟩ : S28), (⟨(⟨#[105]⟩ : ByteArray), 1, (⟨2, 1, (⟨#[]⟩ : ByteArray)⟩ : S26), true, false⟩ : S28)] : List (S28))) (inner := [.string (⟨#[116]⟩ : ByteArray), .int .i64 1, .int .i64 4, .int .i64 0, .string (⟨#[98]⟩ : ByteArray), .bool false, .bool false, .string (⟨#[105]⟩ : ByteArray), .int .i64 1, .int .i64 1, .int .i64 2, .string (⟨#[]⟩ : ByteArray), .bool false, .bool false, .string (⟨#[105]⟩ : ByteArray), .int .i64 1, .int .i64 2, .int .i64 1, .string (⟨#[]⟩ : ByteArray), .bool true, .bool false]) (ok := fun _ => True) (okp := fun _ => True) ?hr ?hp (fun _ hk => hk) trivial (Below.refl _ _) (Nat.le_refl _) (by simp) ?_; (case hd => rfl); (case hg => rfl); (case hr => first | (go_simp; done) | (go_simp; rfl)); (case hp => exact (Reps.c7 (show Kd.M k28 _ _ _ (⟨(⟨#[116]⟩ : ByteArray), 1, (⟨4, 0, (⟨#[98]⟩ : ByteArray)⟩ : S26), false, false⟩ : S28) [.string (⟨#[116]⟩ : ByteArray), .int .i64 1, .int .i64 4, .int .i64 0, .string (⟨#[98]⟩ : ByteArray), .bool false, .bool false] from (k28_mkM _ _ _ (⟨(⟨#[116]⟩ : ByteArray), 1, (⟨4, 0, (⟨#[98]⟩ : ByteArray)⟩ : S26), false, false⟩ : S28) )) (Reps.c7 (show Kd.M k28 _ _ _ (⟨(⟨#[105]⟩ : ByteArray), 1, (⟨1, 2, (⟨#[]⟩ : ByteArray)⟩ : S26), false, false⟩ : S28) [.string (⟨#[105]⟩ : ByteArray), .int .i64 1, .int .i64 1, .int .i64 2, .string (⟨#[]⟩ : ByteArray), .bool false, .bool false] from (k28_mkM _ _ _ (⟨(⟨#[105]⟩ : ByteArray), 1, (⟨1, 2, (⟨#[]⟩ : ByteArray)⟩ : S26), false, false⟩ : S28) )) (Reps.c7 (show Kd.M k28 _ _ _ (⟨(⟨#[105]⟩ : ByteArray), 1, (⟨2, 1, (⟨#[]⟩ : ByteArray)⟩ : S26), true, false⟩ : S28) [.string (⟨#[105]⟩ : ByteArray), .int .i64 1, .int .i64 2, .int .i64 1, .string (⟨#[]⟩ : ByteArray), .bool true, .bool false] from (k28_mkM _ _ _ (⟨(⟨#[105]⟩ : ByteArray), 1, (⟨2, 1, (⟨#[]⟩ : ByteArray)⟩ : S26), true, false⟩ : S28) )) (Reps.none _ _))))); intro v149 w62 ho63 hb hg_ hnew_; clear hg_ hnew_; (first | rw [← Ny148.out] at ho63 | (simp only [Int.reduceToNat] at ho63; rw [← Ny148.out] at ho63)); have n0_ := qR HO104 hb; have n1_ := qR HO111 hb; have n2_ := Aside0.mk (Kd.R_elder' (by (with_reducible repeat (first | apply Kd.R_alloc | apply Kd.R_drewN | apply Kd.R_drew)); exact HO114.out) (Kd.R_base ho63) hb); have n3_ := Aside0.mk (Kd.R_elder' (by (with_reducible repeat (first | apply Kd.R_alloc | apply Kd.R_drewN | apply Kd.R_drew)); exact HO117.out) (Kd.R_base ho63) hb); have n4_ := Aside0.mk (Kd.R_elder' (by (with_reducible repeat (first | apply Kd.R_alloc | apply Kd.R_drewN | apply Kd.R_drew)); exact HO120.out) (Kd.R_base ho63) hb); have n5_ := Aside0.mk (Kd.R_elder' (by (with_reducible repeat (first | apply Kd.R_alloc | apply Kd.R_drewN | apply Kd.R_drew)); exact HO123.out) (Kd.R_base ho63) hb); have n6_ := Aside0.mk (Kd.R_elder' (by (with_reducible repeat (first | apply Kd.R_alloc | apply Kd.R_drewN | apply Kd.R_drew)); exact HO126.out) (Kd.R_base ho63) hb); have n7_ := Aside0.mk (Kd.R_elder' (by (with_reducible repeat (first | apply Kd.R_alloc | apply Kd.R_drewN | apply Kd.R_drew)); exact HO129.out) (Kd.R_base ho63) hb); have n8_ := Aside0.mk (Kd.R_elder' (by (with_reducible repeat (first | apply Kd.R_alloc | apply Kd.R_drewN | apply Kd.R_drew)); exact HO132.out) (Kd.R_base ho63) hb); have n9_ := Aside0.mk (Kd.R_elder' (by (with_reducible repeat (first | apply Kd.R_alloc | apply Kd.R_drewN | apply Kd.R_drew)); exact HO135.out) (Kd.R_base ho63) hb); have n10_ := Aside0.mk (Kd.R_elder' (by (with_reducible repeat (first | apply Kd.R_alloc | apply Kd.R_drewN | apply Kd.R_drew)); exact HO138.out) (Kd.R_base ho63) hb); have n11_ := Aside0.mk (Kd.R_elder' (by (with_reducible repeat (first | apply Kd.R_alloc | apply Kd.R_drewN | apply Kd.R_drew)); exact HO141.out) (Kd.R_base ho63) hb); have n12_ := Aside0.mk (Kd.R_elder' (by (with_reducible repeat (first | apply Kd.R_alloc | apply Kd.R_drewN | apply Kd.R_drew)); exact HO144.out) (Kd.R_base ho63) hb); have n13_ := Aside0.mk (Kd.R_elder' (by (with_reducible repeat (first | apply Kd.R_alloc | apply Kd.R_drewN | apply Kd.R_drew)); exact HO147.out) (Kd.R_base ho63) hb); have n14_ := Aside0.mk (Kd.R_lower (Kd.R_new' (Kd.R_new' (Kd.R_new' (Kd.R_new' (Kd.R_new' (Kd.R_new' (Kd.R_new' (Kd.R_new' (Kd.R_new' (Kd.R_new' (Kd.R_new' (Kd.R_new' ho63 (Kd.R_lt (by (with_reducible repeat (first | apply Kd.R_alloc | apply Kd.R_drewN | apply Kd.R_drew)); exact HO114.out))) (Kd.R_lt (by (with_reducible repeat (first | apply Kd.R_alloc | apply Kd.R_drewN | apply Kd.R_drew)); exact HO117.out))) (Kd.R_lt (by (with_reducible repeat (first | apply Kd.R_alloc | apply Kd.R_drewN | apply Kd.R_drew)); exact HO120.out))) (Kd.R_lt (by (with_reducible repeat (first | apply Kd.R_alloc | apply Kd.R_drewN | apply Kd.R_drew)); exact HO123.out))) (Kd.R_lt (by (with_reducible repeat (first | apply Kd.R_alloc | apply Kd.R_drewN | apply Kd.R_drew)); exact HO126.out))) (Kd.R_lt (by (with_reducible repeat (first | apply Kd.R_alloc | apply Kd.R_drewN | apply Kd.R_drew)); exact HO129.out))) (Kd.R_lt (by (with_reducible repeat (first | apply Kd.R_alloc | apply Kd.R_drewN | apply Kd.R_drew)); exact HO132.out))) (Kd.R_lt (by (with_reducible repeat (first | apply Kd.R_alloc | apply Kd.R_drewN | apply Kd.R_drew)); exact HO135.out))) (Kd.R_lt (by (with_reducible repeat (first | apply Kd.R_alloc | apply Kd.R_drewN | apply Kd.R_drew)); exact HO138.out))) (Kd.R_lt (by (with_reducible repeat (first | apply Kd.R_alloc | apply Kd.R_drewN | apply Kd.R_drew)); exact HO141.out))) (Kd.R_lt (by (with_reducible repeat (first | apply Kd.R_alloc | apply Kd.R_drewN | apply Kd.R_drew)); exact HO144.out))) (Kd.R_lt (by (with_reducible repeat (first | apply Kd.R_alloc | apply Kd.R_drewN | apply Kd.R_drew)); exact HO147.out))) (qZ HB)); have n15_ := qB BK105 hb; have n16_ := qB BK106 hb; have n17_ := qB BK107 hb; have n18_ := qB BK108 hb; have n19_ := qS HB hb; clear HO104; clear HO111; clear HO114; clear HO117; clear HO120; clear HO123; clear HO126; clear HO129; clear HO132; clear HO135; clear HO138; clear HO141; clear HO144; clear HO147; clear BK105; clear BK106; clear BK107; clear BK108; clear HB; have HO104 := n0_; have HO111 := n1_; have HO114 := n2_; have HO117 := n3_; have HO120 := n4_; have HO123 := n5_; have HO126 := n6_; have HO129 := n7_; have HO132 := n8_; have HO135 := n9_; have HO138 := n10_; have HO141 := n11_; have HO144 := n12_; have HO147 := n13_; have HO150 := n14_; have BK105 := n15_; have BK106 := n16_; have BK107 := n17_; have BK108 := n18_; have HB := n19_; clear n0_ n1_ n2_ n3_ n4_ n5_ n6_ n7_ n8_ n9_ n10_ n11_ n12_ n13_ n14_ n15_ n16_ n17_ n18_ n19_; clear hb ho63; have hcz64_0 : w62.cell? ⟨gb106, 0, none⟩ = some (.int .i64 2) := (blk_cell BK106.out 0).trans rfl; have hcz64_1 : w62.cell? ⟨gb106, 1, none⟩ = some (.int .i64 1) := (blk_cell BK106.out 1).trans rfl; have hcz64_2 : w62.cell? ⟨gb106, 2, none⟩ = some (.string (⟨#[]⟩ : ByteArray)) := (blk_cell BK106.out 2).trans rfl; have hfz64_0 := blk_frozen BK106.out 0; have hfz64_1 := blk_frozen BK106.out 1; have hfz64_2 := blk_frozen BK106.out 2) | ((with_reducible refine gate_dst (N := 71) rfl ?_); refine Kd.R_lit k28 _ 28 ?hg (N := 71) ?hd (xs := ([(⟨(⟨#[105]⟩ : ByteArray), 1, (⟨2, 1, (⟨#[]⟩ : ByteArray)⟩ : S26), true, false⟩ : S28)] : List (S28))) (inner := [.string (⟨#[105]⟩ : ByteArray), .int .i64 1, .int .i64 2, .int .i64 1, .string (⟨#[]⟩ : ByteArray), .bool true, .bool false]) (ok := fun _ => True) (okp := fun _ => True) ?hr ?hp (fun _ hk => hk) trivial (Below.refl _ _) (Nat.le_refl _) (by simp) ?_; (case hd => rfl); (case hg => rfl); (case hr => first | (go_simp; done) | (go_simp; rfl)); (case hp => exact (Reps.c7 (show Kd.M k28 _ _ _ (⟨(⟨#[105]⟩ : ByteArray), 1, (⟨2, 1, (⟨#[]⟩ : ByteArray)⟩ : S26), true, false⟩ : S28) [.string (⟨#[105]⟩ : ByteArray), .int .i64 1, .int .i64 2, .int .i64 1, .string (⟨#[]⟩ : ByteArray), .bool true, .bool false] from (k28_mkM _ _ _ (⟨(⟨#[105]⟩ : ByteArray), 1, (⟨2, 1, (⟨#[]⟩ : ByteArray)⟩ : S26), true, false⟩ : S28) )) (Reps.none _ _))); intro v152 w65 ho66 hb hg_ hnew_; clear hg_ hnew_; (first | rw [← Ny151.out] at ho66 | (simp only [Int.reduceToNat] at ho66; rw [← Ny151.out] at ho66)); have n0_ := qR HO104 hb; have n1_ := qR HO111 hb; have n2_ := Aside0.mk (Kd.R_elder' (by (with_reducible repeat (first | apply Kd.R_alloc | apply Kd.R_drewN | apply Kd.R_drew)); exact HO114.out) (Kd.R_base ho66) hb); have n3_ := Aside0.mk (Kd.R_elder' (by (with_reducible repeat (first | apply Kd.R_alloc | apply Kd.R_drewN | apply Kd.R_drew)); exact HO117.out) (Kd.R_base ho66) hb); have n4_ := Aside0.mk (Kd.R_elder' (by (with_reducible repeat (first | apply Kd.R_alloc | apply Kd.R_drewN | apply Kd.R_drew)); exact HO120.out) (Kd.R_base ho66) hb); have n5_ := Aside0.mk (Kd.R_elder' (by (with_reducible repeat (first | apply Kd.R_alloc | apply Kd.R_drewN | apply Kd.R_drew)); exact HO123.out) (Kd.R_base ho66) hb); have n6_ := Aside0.mk (Kd.R_elder' (by (with_reducible repeat (first | apply Kd.R_alloc | apply Kd.R_drewN | apply Kd.R_drew)); exact HO126.out) (Kd.R_base ho66) hb); have n7_ := Aside0.mk (Kd.R_elder' (by (with_reducible repeat (first | apply Kd.R_alloc | apply Kd.R_drewN | apply Kd.R_drew)); exact HO129.out) (Kd.R_base ho66) hb); have n8_ := Aside0.mk (Kd.R_elder' (by (with_reducible repeat (first | apply Kd.R_alloc | apply Kd.R_drewN | apply Kd.R_drew)); exact HO132.out) (Kd.R_base ho66) hb); have n9_ := Aside0.mk (Kd.R_elder' (by (with_reducible repeat (first | apply Kd.R_alloc | apply Kd.R_drewN | apply Kd.R_drew)); exact HO135.out) (Kd.R_base ho66) hb); have n10_ := Aside0.mk (Kd.R_elder' (by (with_reducible repeat (first | apply Kd.R_alloc | apply Kd.R_drewN | apply Kd.R_drew)); exact HO138.out) (Kd.R_base ho66) hb); have n11_ := Aside0.mk (Kd.R_elder' (by (with_reducible repeat (first | apply Kd.R_alloc | apply Kd.R_drewN | apply Kd.R_drew)); exact HO141.out) (Kd.R_base ho66) hb); have n12_ := Aside0.mk (Kd.R_elder' (by (with_reducible repeat (first | apply Kd.R_alloc | apply Kd.R_drewN | apply Kd.R_drew)); exact HO144.out) (Kd.R_base ho66) hb); have n13_ := Aside0.mk (Kd.R_elder' (by (with_reducible repeat (first | apply Kd.R_alloc | apply Kd.R_drewN | apply Kd.R_drew)); exact HO147.out) (Kd.R_base ho66) hb); have n14_ := Aside0.mk (Kd.R_elder' (by (with_reducible repeat (first | apply Kd.R_alloc | apply Kd.R_drewN | apply Kd.R_drew)); exact HO150.out) (Kd.R_base ho66) hb); have n15_ := Aside0.mk (Kd.R_lower (Kd.R_new' (Kd.R_new' (Kd.R_new' (Kd.R_new' (Kd.R_new' (Kd.R_new' (Kd.R_new' (Kd.R_new' (Kd.R_new' (Kd.R_new' (Kd.R_new' (Kd.R_new' (Kd.R_new' ho66 (Kd.R_lt (by (with_reducible repeat (first | apply Kd.R_alloc | apply Kd.R_drewN | apply Kd.R_drew)); exact HO114.out))) (Kd.R_lt (by (with_reducible repeat (first | apply Kd.R_alloc | apply Kd.R_drewN | apply Kd.R_drew)); exact HO117.out))) (Kd.R_lt (by (with_reducible repeat (first | apply Kd.R_alloc | apply Kd.R_drewN | apply Kd.R_drew)); exact HO120.out))) (Kd.R_lt (by (with_reducible repeat (first | apply Kd.R_alloc | apply Kd.R_drewN | apply Kd.R_drew)); exact HO123.out))) (Kd.R_lt (by (with_reducible repeat (first | apply Kd.R_alloc | apply Kd.R_drewN | apply Kd.R_drew)); exact HO126.out))) (Kd.R_lt (by (with_reducible repeat (first | apply Kd.R_alloc | apply Kd.R_drewN | apply Kd.R_drew)); exact HO129.out))) (Kd.R_lt (by (with_reducible repeat (first | apply Kd.R_alloc | apply Kd.R_drewN | apply Kd.R_drew)); exact HO132.out))) (Kd.R_lt (by (with_reducible repeat (first | apply Kd.R_alloc | apply Kd.R_drewN | apply Kd.R_drew)); exact HO135.out))) (Kd.R_lt (by (with_reducible repeat (first | apply Kd.R_alloc | apply Kd.R_drewN | apply Kd.R_drew)); exact HO138.out))) (Kd.R_lt (by (with_reducible repeat (first | apply Kd.R_alloc | apply Kd.R_drewN | apply Kd.R_drew)); exact HO141.out))) (Kd.R_lt (by (with_reducible repeat (first | apply Kd.R_alloc | apply Kd.R_drewN | apply Kd.R_drew)); exact HO144.out))) (Kd.R_lt (by (with_reducible repeat (first | apply Kd.R_alloc | apply Kd.R_drewN | apply Kd.R_drew)); exact HO147.out))) (Kd.R_lt (by (with_reducible repeat (first | apply Kd.R_alloc | apply Kd.R_drewN | apply Kd.R_drew)); exact HO150.out))) (qZ HB)); have n16_ := qB BK105 hb; have n17_ := qB BK106 hb; have n18_ := qB BK107 hb; have n19_ := qB BK108 hb; have n20_ := qS HB hb; clear HO104; clear HO111; clear HO114; clear HO117; clear HO120; clear HO123; clear HO126; clear HO129; clear HO132; clear HO135; clear HO138; clear HO141; clear HO144; clear HO147; clear HO150; clear BK105; clear BK106; clear BK107; clear BK108; clear HB; have HO104 := n0_; have HO111 := n1_; have HO114 := n2_; have HO117 := n3_; have HO120 := n4_; have HO123 := n5_; have HO126 := n6_; have HO129 := n7_; have HO132 := n8_; have HO135 := n9_; have HO138 := n10_; have HO141 := n11_; have HO144 := n12_; have HO147 := n13_; have HO150 := n14_; have HO153 := n15_; have BK105 := n16_; have BK106 := n17_; have BK107 := n18_; have BK108 := n19_; have HB := n20_; clear n0_ n1_ n2_ n3_ n4_ n5_ n6_ n7_ n8_ n9_ n10_ n11_ n12_ n13_ n14_ n15_ n16_ n17_ n18_ n19_ n20_; clear hb ho66; obtain ⟨Ao67, co67, eo67⟩ := Kd.R_slice HO114.out; subst eo67; obtain ⟨Ao68, co68, eo68⟩ := Kd.R_slice HO117.out; subst eo68; obtain ⟨Ao69, co69, eo69⟩ := Kd.R_slice HO120.out; subst eo69; obtain ⟨Ao70, co70, eo70⟩ := Kd.R_slice HO123.out; subst eo70; obtain ⟨Ao71, co71, eo71⟩ := Kd.R_slice HO126.out; subst eo71; obtain ⟨Ao72, co72, eo72⟩ := Kd.R_slice HO129.out; subst eo72; obtain ⟨Ao73, co73, eo73⟩ := Kd.R_slice HO132.out; subst eo73; obtain ⟨Ao74, co74, eo74⟩ := Kd.R_slice HO135.out; subst eo74; obtain ⟨Ao75, co75, eo75⟩ := Kd.R_slice HO138.out; subst eo75; obtain ⟨Ao76, co76, eo76⟩ := Kd.R_slice HO141.out; subst eo76; obtain ⟨Ao77, co77, eo77⟩ := Kd.R_slice HO144.out; subst eo77; obtain ⟨Ao78, co78, eo78⟩ := Kd.R_slice HO147.out; subst eo78; obtain ⟨Ao79, co79, eo79⟩ := Kd.R_slice HO150.out; subst eo79; obtain ⟨Ao80, co80, eo80⟩ := Kd.R_slice HO153.out; subst eo80) | ((with_reducible refine gate_dst (N := 72) rfl ?_); refine Kd.N_lit (Kd.slice 28 k28) _ 23 ?hg (N' := 72) ?hd (xs := ([y112, y115, y118, y121, y124, y127, y130, y133, y136, y139, y142, y145, y148, y151] : List (List (S28)))) (inner := [.slice Ao67 y112.length co67, .slice Ao68 y115.length co68, .slice Ao69 y118.length co69, .slice Ao70 y121.length co70, .slice Ao71 y124.length co71, .slice Ao72 y127.length co72, .slice Ao73 y130.length co73, .slice Ao74 y133.length co74, .slice Ao75 y136.length co75, .slice Ao76 y139.length co76, .slice Ao77 y142.length co77, .slice Ao78 y145.length co78, .slice Ao79 y148.length co79, .slice Ao80 y151.length co80]) (ok := (fun k_ => some k_ ≠ (.slice Ao6 y102.length co6 : Value).ownBlock ∧ some k_ ≠ (v110 : Value).ownBlock ∧ k_ ≠ gb105 ∧ k_ ≠ gb106 ∧ k_ ≠ gb107 ∧ k_ ≠ gb108)) (okp := (fun k_ => some k_ ≠ (.slice Ao6 y102.length co6 : Value).ownBlock ∧ some k_ ≠ (v110 : Value).ownBlock ∧ k_ ≠ gb105 ∧ k_ ≠ gb106 ∧ k_ ≠ gb107 ∧ k_ ≠ gb108)) ?hr ?hp (fun _ hk => hk) ((show ∀ k_, w65.heap.size ≤ k_ → (fun k_ => some k_ ≠ (.slice Ao6 y102.length co6 : Value).ownBlock ∧ some k_ ≠ (v110 : Value).ownBlock ∧ k_ ≠ gb105 ∧ k_ ≠ gb106 ∧ k_ ≠ gb107 ∧ k_ ≠ gb108) k_ from fun k_ hk => ⟨Kd.fresh' (Kd.R_lt (by (with_reducible repeat (first | apply Kd.R_alloc | apply Kd.R_drewN | apply Kd.R_drew)); exact HO104.out)) k_ hk, Kd.fresh' (Kd.R_lt (by (with_reducible repeat (first | apply Kd.R_alloc | apply Kd.R_drewN | apply Kd.R_drew)); exact HO111.out)) k_ hk, Kd.freshB (g := gb105) (o := .cells #[.slice Ao6 y102.length co6, .int .i64 2] 33 (0, 0)) (by (with_reducible repeat (first | refine blk_drewN ?_ _ | refine blk_drew ?_ | refine blk_alloc ?_ _)); exact BK105.out) k_ hk, Kd.freshB (g := gb106) (o := .cells #[.int .i64 2, .int .i64 1, .string (⟨#[]⟩ : ByteArray)] 26 (0, 0)) (by (with_reducible repeat (first | refine blk_drewN ?_ _ | refine blk_drew ?_ | refine blk_alloc ?_ _)); exact BK106.out) k_ hk, Kd.freshB (g := gb107) (o := .cells #[.int .i64 1, .int .i64 2, .string (⟨#[]⟩ : ByteArray)] 26 (0, 0)) (by (with_reducible repeat (first | refine blk_drewN ?_ _ | refine blk_drew ?_ | refine blk_alloc ?_ _)); exact BK107.out) k_ hk, Kd.freshB (g := gb108) (o := .cells #[.int .i64 4, .int .i64 0, .string (⟨#[98]⟩ : ByteArray)] 26 (0, 0)) (by (with_reducible repeat (first | refine blk_drewN ?_ _ | refine blk_drew ?_ | refine blk_alloc ?_ _)); exact BK108.out) k_ hk⟩) _ (Nat.le_refl _)) (Below.refl _ _) (Nat.le_refl _) (by simp) ?_; (case hd => rfl); (case hg => rfl); (case hr => first | (go_simp; done) | (go_simp; rfl)); (case hp => exact (Reps.one (show Kd.FK (Kd.slice 28 k28) _ _ y112 [.slice Ao67 y112.length co67] from (Kd.FK_slice_mk (Kd.R_reads' (Kd.R_mono (ok' := (fun k_ => some k_ ≠ (.slice Ao6 y102.length co6 : Value).ownBlock ∧ some k_ ≠ (v110 : Value).ownBlock ∧ k_ ≠ gb105 ∧ k_ ≠ gb106 ∧ k_ ≠ gb107 ∧ k_ ≠ gb108)) (Kd.R_types (Kd.R_types (Kd.R_types (Kd.R_types (Kd.R_apart' (Kd.R_apart' (HO114.out) (Kd.R_typed HO104.out) (by decide)) (Kd.R_typed HO111.out) (by decide)) BK105.out (by decide)) BK106.out (by decide)) BK107.out (by decide)) BK108.out (by decide)) (fun k_ hk => ⟨hk.1.1.1.1.1.2, ⟨hk.1.1.1.1.2, ⟨hk.1.1.1.2, ⟨hk.1.1.2, ⟨hk.1.2, hk.2⟩⟩⟩⟩⟩))).2.1 (Kd.R_F (Kd.R_mono (ok' := (fun k_ => some k_ ≠ (.slice Ao6 y102.length co6 : Value).ownBlock ∧ some k_ ≠ (v110 : Value).ownBlock ∧ k_ ≠ gb105 ∧ k_ ≠ gb106 ∧ k_ ≠ gb107 ∧ k_ ≠ gb108)) (Kd.R_types (Kd.R_types (Kd.R_types (Kd.R_types (Kd.R_apart' (Kd.R_apart' (HO114.out) (Kd.R_typed HO104.out) (by decide)) (Kd.R_typed HO111.out) (by decide)) BK105.out (by decide)) BK106.out (by decide)) BK107.out (by decide)) BK108.out (by decide)) (fun k_ hk => ⟨hk.1.1.1.1.1.2, ⟨hk.1.1.1.1.2, ⟨hk.1.1.1.2, ⟨hk.1.1.2, ⟨hk.1.2, hk.2⟩⟩⟩⟩⟩))))) (Reps.one (show Kd.FK (Kd.slice 28 k28) _ _ y115 [.slice Ao68 y115.length co68] from (Kd.FK_slice_mk (Kd.R_reads' (Kd.R_mono (ok' := (fun k_ => some k_ ≠ (.slice Ao6 y102.length co6 : Value).ownBlock ∧ some k_ ≠ (v110 : Value).ownBlock ∧ k_ ≠ gb105 ∧ k_ ≠ gb106 ∧ k_ ≠ gb107 ∧ k_ ≠ gb108)) (Kd.R_types (Kd.R_types (Kd.R_types (Kd.R_types (Kd.R_apart' (Kd.R_apart' (HO117.out) (Kd.R_typed HO104.out) (by decide)) (Kd.R_typed HO111.out) (by decide)) BK105.out (by decide)) BK106.out (by decide)) BK107.out (by decide)) BK108.out (by decide)) (fun k_ hk => ⟨hk.1.1.1.1.1.2, ⟨hk.1.1.1.1.2, ⟨hk.1.1.1.2, ⟨hk.1.1.2, ⟨hk.1.2, hk.2⟩⟩⟩⟩⟩))).2.1 (Kd.R_F (Kd.R_mono (ok' := (fun k_ => some k_ ≠ (.slice Ao6 y102.length co6 : Value).ownBlock ∧ some k_ ≠ (v110 : Value).ownBlock ∧ k_ ≠ gb105 ∧ k_ ≠ gb106 ∧ k_ ≠ gb107 ∧ k_ ≠ gb108)) (Kd.R_types (Kd.R_types (Kd.R_types (Kd.R_types (Kd.R_apart' (Kd.R_apart' (HO117.out) (Kd.R_typed HO104.out) (by decide)) (Kd.R_typed HO111.out) (by decide)) BK105.out (by decide)) BK106.out (by decide)) BK107.out (by decide)) BK108.out (by decide)) (fun k_ hk => ⟨hk.1.1.1.1.1.2, ⟨hk.1.1.1.1.2, ⟨hk.1.1.1.2, ⟨hk.1.1.2, ⟨hk.1.2, hk.2⟩⟩⟩⟩⟩))))) (Reps.one (show Kd.FK (Kd.slice 28 k28) _ _ y118 [.slice Ao69 y118.length co69] from (Kd.FK_slice_mk (Kd.R_reads' (Kd.R_mono (ok' := (fun k_ => some k_ ≠ (.slice Ao6 y102.length co6 : Value).ownBlock ∧ some k_ ≠ (v110 : Value).ownBlock ∧ k_ ≠ gb105 ∧ k_ ≠ gb106 ∧ k_ ≠ gb107 ∧ k_ ≠ gb108)) (Kd.R_types (Kd.R_types (Kd.R_types (Kd.R_types (Kd.R_apart' (Kd.R_apart' (HO120.out) (Kd.R_typed HO104.out) (by decide)) (Kd.R_typed HO111.out) (by decide)) BK105.out (by decide)) BK106.out (by decide)) BK107.out (by decide)) BK108.out (by decide)) (fun k_ hk => ⟨hk.1.1.1.1.1.2, ⟨hk.1.1.1.1.2, ⟨hk.1.1.1.2, ⟨hk.1.1.2, ⟨hk.1.2, hk.2⟩⟩⟩⟩⟩))).2.1 (Kd.R_F (Kd.R_mono (ok' := (fun k_ => some k_ ≠ (.slice Ao6 y102.length co6 : Value).ownBlock ∧ some k_ ≠ (v110 : Value).ownBlock ∧ k_ ≠ gb105 ∧ k_ ≠ gb106 ∧ k_ ≠ gb107 ∧ k_ ≠ gb108)) (Kd.R_types (Kd.R_types (Kd.R_types (Kd.R_types (Kd.R_apart' (Kd.R_apart' (HO120.out) (Kd.R_typed HO104.out) (by decide)) (Kd.R_typed HO111.out) (by decide)) BK105.out (by decide)) BK106.out (by decide)) BK107.out (by decide)) BK108.out (by decide)) (fun k_ hk => ⟨hk.1.1.1.1.1.2, ⟨hk.1.1.1.1.2, ⟨hk.1.1.1.2, ⟨hk.1.1.2, ⟨hk.1.2, hk.2⟩⟩⟩⟩⟩))))) (Reps.one (show Kd.FK (Kd.slice 28 k28) _ _ y121 [.slice Ao70 y121.length co70] from (Kd.FK_slice_mk (Kd.R_reads' (Kd.R_mono (ok' := (fun k_ => some k_ ≠ (.slice Ao6 y102.length co6 : Value).ownBlock ∧ some k_ ≠ (v110 : Value).ownBlock ∧ k_ ≠ gb105 ∧ k_ ≠ gb106 ∧ k_ ≠ gb107 ∧ k_ ≠ gb108)) (Kd.R_types (Kd.R_types (Kd.R_types (Kd.R_types (Kd.R_apart' (Kd.R_apart' (HO123.out) (Kd.R_typed HO104.out) (by decide)) (Kd.R_typed HO111.out) (by decide)) BK105.out (by decide)) BK106.out (by decide)) BK107.out (by decide)) BK108.out (by decide)) (fun k_ hk => ⟨hk.1.1.1.1.1.2, ⟨hk.1.1.1.1.2, ⟨hk.1.1.1.2, ⟨hk.1.1.2, ⟨hk.1.2, hk.2⟩⟩⟩⟩⟩))).2.1 (Kd.R_F (Kd.R_mono (ok' := (fun k_ => some k_ ≠ (.slice Ao6 y102.length co6 : Value).ownBlock ∧ some k_ ≠ (v110 : Value).ownBlock ∧ k_ ≠ gb105 ∧ k_ ≠ gb106 ∧ k_ ≠ gb107 ∧ k_ ≠ gb108)) (Kd.R_types (Kd.R_types (Kd.R_types (Kd.R_types (Kd.R_apart' (Kd.R_apart' (HO123.out) (Kd.R_typed HO104.out) (by decide)) (Kd.R_typed HO111.out) (by decide)) BK105.out (by decide)) BK106.out (by decide)) BK107.out (by decide)) BK108.out (by decide)) (fun k_ hk => ⟨hk.1.1.1.1.1.2, ⟨hk.1.1.1.1.2, ⟨hk.1.1.1.2, ⟨hk.1.1.2, ⟨hk.1.2, hk.2⟩⟩⟩⟩⟩))))) (Reps.one (show Kd.FK (Kd.slice 28 k28) _ _ y124 [.slice Ao71 y124.length co71] from (Kd.FK_slice_mk (Kd.R_reads' (Kd.R_mono (ok' := (fun k_ => some k_ ≠ (.slice Ao6 y102.length co6 : Value).ownBlock ∧ some k_ ≠ (v110 : Value).ownBlock ∧ k_ ≠ gb105 ∧ k_ ≠ gb106 ∧ k_ ≠ gb107 ∧ k_ ≠ gb108)) (Kd.R_types (Kd.R_types (Kd.R_types (Kd.R_types (Kd.R_apart' (Kd.R_apart' (HO126.out) (Kd.R_typed HO104.out) (by decide)) (Kd.R_typed HO111.out) (by decide)) BK105.out (by decide)) BK106.out (by decide)) BK107.out (by decide)) BK108.out (by decide)) (fun k_ hk => ⟨hk.1.1.1.1.1.2, ⟨hk.1.1.1.1.2, ⟨hk.1.1.1.2, ⟨hk.1.1.2, ⟨hk.1.2, hk.2⟩⟩⟩⟩⟩))).2.1 (Kd.R_F (Kd.R_mono (ok' := (fun k_ => some k_ ≠ (.slice Ao6 y102.length co6 : Value).ownBlock ∧ some k_ ≠ (v110 : Value).ownBlock ∧ k_ ≠ gb105 ∧ k_ ≠ gb106 ∧ k_ ≠ gb107 ∧ k_ ≠ gb108)) (Kd.R_types (Kd.R_types (Kd.R_types (Kd.R_types (Kd.R_apart' (Kd.R_apart' (HO126.out) (Kd.R_typed HO104.out) (by decide)) (Kd.R_typed HO111.out) (by decide)) BK105.out (by decide)) BK106.out (by decide)) BK107.out (by decide)) BK108.out (by decide)) (fun k_ hk => ⟨hk.1.1.1.1.1.2, ⟨hk.1.1.1.1.2, ⟨hk.1.1.1.2, ⟨hk.1.1.2, ⟨hk.1.2, hk.2⟩⟩⟩⟩⟩))))) (Reps.one (show Kd.FK (Kd.slice 28 k28) _ _ y127 [.slice Ao72 y127.length co72] from (Kd.FK_slice_mk (Kd.R_reads' (Kd.R_mono (ok' := (fun k_ => some k_ ≠ (.slice Ao6 y102.length co6 : Value).ownBlock ∧ some k_ ≠ (v110 : Value).ownBlock ∧ k_ ≠ gb105 ∧ k_ ≠ gb106 ∧ k_ ≠ gb107 ∧ k_ ≠ gb108)) (Kd.R_types (Kd.R_types (Kd.R_types (Kd.R_types (Kd.R_apart' (Kd.R_apart' (HO129.out) (Kd.R_typed HO104.out) (by decide)) (Kd.R_typed HO111.out) (by decide)) BK105.out (by decide)) BK106.out (by decide)) BK107.out (by decide)) BK108.out (by decide)) (fun k_ hk => ⟨hk.1.1.1.1.1.2, ⟨hk.1.1.1.1.2, ⟨hk.1.1.1.2, ⟨hk.1.1.2, ⟨hk.1.2, hk.2⟩⟩⟩⟩⟩))).2.1 (Kd.R_F (Kd.R_mono (ok' := (fun k_ => some k_ ≠ (.slice Ao6 y102.length co6 : Value).ownBlock ∧ some k_ ≠ (v110 : Value).ownBlock ∧ k_ ≠ gb105 ∧ k_ ≠ gb106 ∧ k_ ≠ gb107 ∧ k_ ≠ gb108)) (Kd.R_types (Kd.R_types (Kd.R_types (Kd.R_types (Kd.R_apart' (Kd.R_apart' (HO129.out) (Kd.R_typed HO104.out) (by decide)) (Kd.R_typed HO111.out) (by decide)) BK105.out (by decide)) BK106.out (by decide)) BK107.out (by decide)) BK108.out (by decide)) (fun k_ hk => ⟨hk.1.1.1.1.1.2, ⟨hk.1.1.1.1.2, ⟨hk.1.1.1.2, ⟨hk.1.1.2, ⟨hk.1.2, hk.2⟩⟩⟩⟩⟩))))) (Reps.one (show Kd.FK (Kd.slice 28 k28) _ _ y130 [.slice Ao73 y130.length co73] from (Kd.FK_slice_mk (Kd.R_reads' (Kd.R_mono (ok' := (fun k_ => some k_ ≠ (.slice Ao6 y102.length co6 : Value).ownBlock ∧ some k_ ≠ (v110 : Value).ownBlock ∧ k_ ≠ gb105 ∧ k_ ≠ gb106 ∧ k_ ≠ gb107 ∧ k_ ≠ gb108)) (Kd.R_types (Kd.R_types (Kd.R_types (Kd.R_types (Kd.R_apart' (Kd.R_apart' (HO132.out) (Kd.R_typed HO104.out) (by decide)) (Kd.R_typed HO111.out) (by decide)) BK105.out (by decide)) BK106.out (by decide)) BK107.out (by decide)) BK108.out (by decide)) (fun k_ hk => ⟨hk.1.1.1.1.1.2, ⟨hk.1.1.1.1.2, ⟨hk.1.1.1.2, ⟨hk.1.1.2, ⟨hk.1.2, hk.2⟩⟩⟩⟩⟩))).2.1 (Kd.R_F (Kd.R_mono (ok' := (fun k_ => some k_ ≠ (.slice Ao6 y102.length co6 : Value).ownBlock ∧ some k_ ≠ (v110 : Value).ownBlock ∧ k_ ≠ gb105 ∧ k_ ≠ gb106 ∧ k_ ≠ gb107 ∧ k_ ≠ gb108)) (Kd.R_types (Kd.R_types (Kd.R_types (Kd.R_types (Kd.R_apart' (Kd.R_apart' (HO132.out) (Kd.R_typed HO104.out) (by decide)) (Kd.R_typed HO111.out) (by decide)) BK105.out (by decide)) BK106.out (by decide)) BK107.out (by decide)) BK108.out (by decide)) (fun k_ hk => ⟨hk.1.1.1.1.1.2, ⟨hk.1.1.1.1.2, ⟨hk.1.1.1.2, ⟨hk.1.1.2, ⟨hk.1.2, hk.2⟩⟩⟩⟩⟩))))) (Reps.one (show Kd.FK (Kd.slice 28 k28) _ _ y133 [.slice Ao74 y133.length co74] from (Kd.FK_slice_mk (Kd.R_reads' (Kd.R_mono (ok' := (fun k_ => some k_ ≠ (.slice Ao6 y102.length co6 : Value).ownBlock ∧ some k_ ≠ (v110 : Value).ownBlock ∧ k_ ≠ gb105 ∧ k_ ≠ gb106 ∧ k_ ≠ gb107 ∧ k_ ≠ gb108)) (Kd.R_types (Kd.R_types (Kd.R_types (Kd.R_types (Kd.R_apart' (Kd.R_apart' (HO135.out) (Kd.R_typed HO104.out) (by decide)) (Kd.R_typed HO111.out) (by decide)) BK105.out (by decide)) BK106.out (by decide)) BK107.out (by decide)) BK108.out (by decide)) (fun k_ hk => ⟨hk.1.1.1.1.1.2, ⟨hk.1.1.1.1.2, ⟨hk.1.1.1.2, ⟨hk.1.1.2, ⟨hk.1.2, hk.2⟩⟩⟩⟩⟩))).2.1 (Kd.R_F (Kd.R_mono (ok' := (fun k_ => some k_ ≠ (.slice Ao6 y102.length co6 : Value).ownBlock ∧ some k_ ≠ (v110 : Value).ownBlock ∧ k_ ≠ gb105 ∧ k_ ≠ gb106 ∧ k_ ≠ gb107 ∧ k_ ≠ gb108)) (Kd.R_types (Kd.R_types (Kd.R_types (Kd.R_types (Kd.R_apart' (Kd.R_apart' (HO135.out) (Kd.R_typed HO104.out) (by decide)) (Kd.R_typed HO111.out) (by decide)) BK105.out (by decide)) BK106.out (by decide)) BK107.out (by decide)) BK108.out (by decide)) (fun k_ hk => ⟨hk.1.1.1.1.1.2, ⟨hk.1.1.1.1.2, ⟨hk.1.1.1.2, ⟨hk.1.1.2, ⟨hk.1.2, hk.2⟩⟩⟩⟩⟩))))) (Reps.one (show Kd.FK (Kd.slice 28 k28) _ _ y136 [.slice Ao75 y136.length co75] from (Kd.FK_slice_mk (Kd.R_reads' (Kd.R_mono (ok' := (fun k_ => some k_ ≠ (.slice Ao6 y102.length co6 : Value).ownBlock ∧ some k_ ≠ (v110 : Value).ownBlock ∧ k_ ≠ gb105 ∧ k_ ≠ gb106 ∧ k_ ≠ gb107 ∧ k_ ≠ gb108)) (Kd.R_types (Kd.R_types (Kd.R_types (Kd.R_types (Kd.R_apart' (Kd.R_apart' (HO138.out) (Kd.R_typed HO104.out) (by decide)) (Kd.R_typed HO111.out) (by decide)) BK105.out (by decide)) BK106.out (by decide)) BK107.out (by decide)) BK108.out (by decide)) (fun k_ hk => ⟨hk.1.1.1.1.1.2, ⟨hk.1.1.1.1.2, ⟨hk.1.1.1.2, ⟨hk.1.1.2, ⟨hk.1.2, hk.2⟩⟩⟩⟩⟩))).2.1 (Kd.R_F (Kd.R_mono (ok' := (fun k_ => some k_ ≠ (.slice Ao6 y102.length co6 : Value).ownBlock ∧ some k_ ≠ (v110 : Value).ownBlock ∧ k_ ≠ gb105 ∧ k_ ≠ gb106 ∧ k_ ≠ gb107 ∧ k_ ≠ gb108)) (Kd.R_types (Kd.R_types (Kd.R_types (Kd.R_types (Kd.R_apart' (Kd.R_apart' (HO138.out) (Kd.R_typed HO104.out) (by decide)) (Kd.R_typed HO111.out) (by decide)) BK105.out (by decide)) BK106.out (by decide)) BK107.out (by decide)) BK108.out (by decide)) (fun k_ hk => ⟨hk.1.1.1.1.1.2, ⟨hk.1.1.1.1.2, ⟨hk.1.1.1.2, ⟨hk.1.1.2, ⟨hk.1.2, hk.2⟩⟩⟩⟩⟩))))) (Reps.one (show Kd.FK (Kd.slice 28 k28) _ _ y139 [.slice Ao76 y139.length co76] from (Kd.FK_slice_mk (Kd.R_reads' (Kd.R_mono (ok' := (fun k_ => some k_ ≠ (.slice Ao6 y102.length co6 : Value).ownBlock ∧ some k_ ≠ (v110 : Value).ownBlock ∧ k_ ≠ gb105 ∧ k_ ≠ gb106 ∧ k_ ≠ gb107 ∧ k_ ≠ gb108)) (Kd.R_types (Kd.R_types (Kd.R_types (Kd.R_types (Kd.R_apart' (Kd.R_apart' (HO141.out) (Kd.R_typed HO104.out) (by decide)) (Kd.R_typed HO111.out) (by decide)) BK105.out (by decide)) BK106.out (by decide)) BK107.out (by decide)) BK108.out (by decide)) (fun k_ hk => ⟨hk.1.1.1.1.1.2, ⟨hk.1.1.1.1.2, ⟨hk.1.1.1.2, ⟨hk.1.1.2, ⟨hk.1.2, hk.2⟩⟩⟩⟩⟩))).2.1 (Kd.R_F (Kd.R_mono (ok' := (fun k_ => some k_ ≠ (.slice Ao6 y102.length co6 : Value).ownBlock ∧ some k_ ≠ (v110 : Value).ownBlock ∧ k_ ≠ gb105 ∧ k_ ≠ gb106 ∧ k_ ≠ gb107 ∧ k_ ≠ gb108)) (Kd.R_types (Kd.R_types (Kd.R_types (Kd.R_types (Kd.R_apart' (Kd.R_apart' (HO141.out) (Kd.R_typed HO104.out) (by decide)) (Kd.R_typed HO111.out) (by decide)) BK105.out (by decide)) BK106.out (by decide)) BK107.out (by decide)) BK108.out (by decide)) (fun k_ hk => ⟨hk.1.1.1.1.1.2, ⟨hk.1.1.1.1.2, ⟨hk.1.1.1.2, ⟨hk.1.1.2, ⟨hk.1.2, hk.2⟩⟩⟩⟩⟩))))) (Reps.one (show Kd.FK (Kd.slice 28 k28) _ _ y142 [.slice Ao77 y142.length co77] from (Kd.FK_slice_mk (Kd.R_reads' (Kd.R_mono (ok' := (fun k_ => some k_ ≠ (.slice Ao6 y102.length co6 : Value).ownBlock ∧ some k_ ≠ (v110 : Value).ownBlock ∧ k_ ≠ gb105 ∧ k_ ≠ gb106 ∧ k_ ≠ gb107 ∧ k_ ≠ gb108)) (Kd.R_types (Kd.R_types (Kd.R_types (Kd.R_types (Kd.R_apart' (Kd.R_apart' (HO144.out) (Kd.R_typed HO104.out) (by decide)) (Kd.R_typed HO111.out) (by decide)) BK105.out (by decide)) BK106.out (by decide)) BK107.out (by decide)) BK108.out (by decide)) (fun k_ hk => ⟨hk.1.1.1.1.1.2, ⟨hk.1.1.1.1.2, ⟨hk.1.1.1.2, ⟨hk.1.1.2, ⟨hk.1.2, hk.2⟩⟩⟩⟩⟩))).2.1 (Kd.R_F (Kd.R_mono (ok' := (fun k_ => some k_ ≠ (.slice Ao6 y102.length co6 : Value).ownBlock ∧ some k_ ≠ (v110 : Value).ownBlock ∧ k_ ≠ gb105 ∧ k_ ≠ gb106 ∧ k_ ≠ gb107 ∧ k_ ≠ gb108)) (Kd.R_types (Kd.R_types (Kd.R_types (Kd.R_types (Kd.R_apart' (Kd.R_apart' (HO144.out) (Kd.R_typed HO104.out) (by decide)) (Kd.R_typed HO111.out) (by decide)) BK105.out (by decide)) BK106.out (by decide)) BK107.out (by decide)) BK108.out (by decide)) (fun k_ hk => ⟨hk.1.1.1.1.1.2, ⟨hk.1.1.1.1.2, ⟨hk.1.1.1.2, ⟨hk.1.1.2, ⟨hk.1.2, hk.2⟩⟩⟩⟩⟩))))) (Reps.one (show Kd.FK (Kd.slice 28 k28) _ _ y145 [.slice Ao78 y145.length co78] from (Kd.FK_slice_mk (Kd.R_reads' (Kd.R_mono (ok' := (fun k_ => some k_ ≠ (.slice Ao6 y102.length co6 : Value).ownBlock ∧ some k_ ≠ (v110 : Value).ownBlock ∧ k_ ≠ gb105 ∧ k_ ≠ gb106 ∧ k_ ≠ gb107 ∧ k_ ≠ gb108)) (Kd.R_types (Kd.R_types (Kd.R_types (Kd.R_types (Kd.R_apart' (Kd.R_apart' (HO147.out) (Kd.R_typed HO104.out) (by decide)) (Kd.R_typed HO111.out) (by decide)) BK105.out (by decide)) BK106.out (by decide)) BK107.out (by decide)) BK108.out (by decide)) (fun k_ hk => ⟨hk.1.1.1.1.1.2, ⟨hk.1.1.1.1.2, ⟨hk.1.1.1.2, ⟨hk.1.1.2, ⟨hk.1.2, hk.2⟩⟩⟩⟩⟩))).2.1 (Kd.R_F (Kd.R_mono (ok' := (fun k_ => some k_ ≠ (.slice Ao6 y102.length co6 : Value).ownBlock ∧ some k_ ≠ (v110 : Value).ownBlock ∧ k_ ≠ gb105 ∧ k_ ≠ gb106 ∧ k_ ≠ gb107 ∧ k_ ≠ gb108)) (Kd.R_types (Kd.R_types (Kd.R_types (Kd.R_types (Kd.R_apart' (Kd.R_apart' (HO147.out) (Kd.R_typed HO104.out) (by decide)) (Kd.R_typed HO111.out) (by decide)) BK105.out (by decide)) BK106.out (by decide)) BK107.out (by decide)) BK108.out (by decide)) (fun k_ hk => ⟨hk.1.1.1.1.1.2, ⟨hk.1.1.1.1.2, ⟨hk.1.1.1.2, ⟨hk.1.1.2, ⟨hk.1.2, hk.2⟩⟩⟩⟩⟩))))) (Reps.one (show Kd.FK (Kd.slice 28 k28) _ _ y148 [.slice Ao79 y148.length co79] from (Kd.FK_slice_mk (Kd.R_reads' (Kd.R_mono (ok' := (fun k_ => some k_ ≠ (.slice Ao6 y102.length co6 : Value).ownBlock ∧ some k_ ≠ (v110 : Value).ownBlock ∧ k_ ≠ gb105 ∧ k_ ≠ gb106 ∧ k_ ≠ gb107 ∧ k_ ≠ gb108)) (Kd.R_types (Kd.R_types (Kd.R_types (Kd.R_types (Kd.R_apart' (Kd.R_apart' (HO150.out) (Kd.R_typed HO104.out) (by decide)) (Kd.R_typed HO111.out) (by decide)) BK105.out (by decide)) BK106.out (by decide)) BK107.out (by decide)) BK108.out (by decide)) (fun k_ hk => ⟨hk.1.1.1.1.1.2, ⟨hk.1.1.1.1.2, ⟨hk.1.1.1.2, ⟨hk.1.1.2, ⟨hk.1.2, hk.2⟩⟩⟩⟩⟩))).2.1 (Kd.R_F (Kd.R_mono (ok' := (fun k_ => some k_ ≠ (.slice Ao6 y102.length co6 : Value).ownBlock ∧ some k_ ≠ (v110 : Value).ownBlock ∧ k_ ≠ gb105 ∧ k_ ≠ gb106 ∧ k_ ≠ gb107 ∧ k_ ≠ gb108)) (Kd.R_types (Kd.R_types (Kd.R_types (Kd.R_types (Kd.R_apart' (Kd.R_apart' (HO150.out) (Kd.R_typed HO104.out) (by decide)) (Kd.R_typed HO111.out) (by decide)) BK105.out (by decide)) BK106.out (by decide)) BK107.out (by decide)) BK108.out (by decide)) (fun k_ hk => ⟨hk.1.1.1.1.1.2, ⟨hk.1.1.1.1.2, ⟨hk.1.1.1.2, ⟨hk.1.1.2, ⟨hk.1.2, hk.2⟩⟩⟩⟩⟩))))) (Reps.one (show Kd.FK (Kd.slice 28 k28) _ _ y151 [.slice Ao80 y151.length co80] from (Kd.FK_slice_mk (Kd.R_reads' (Kd.R_mono (ok' := (fun k_ => some k_ ≠ (.slice Ao6 y102.length co6 : Value).ownBlock ∧ some k_ ≠ (v110 : Value).ownBlock ∧ k_ ≠ gb105 ∧ k_ ≠ gb106 ∧ k_ ≠ gb107 ∧ k_ ≠ gb108)) (Kd.R_types (Kd.R_types (Kd.R_types (Kd.R_types (Kd.R_apart' (Kd.R_apart' (HO153.out) (Kd.R_typed HO104.out) (by decide)) (Kd.R_typed HO111.out) (by decide)) BK105.out (by decide)) BK106.out (by decide)) BK107.out (by decide)) BK108.out (by decide)) (fun k_ hk => ⟨hk.1.1.1.1.1.2, ⟨hk.1.1.1.1.2, ⟨hk.1.1.1.2, ⟨hk.1.1.2, ⟨hk.1.2, hk.2⟩⟩⟩⟩⟩))).2.1 (Kd.R_F (Kd.R_mono (ok' := (fun k_ => some k_ ≠ (.slice Ao6 y102.length co6 : Value).ownBlock ∧ some k_ ≠ (v110 : Value).ownBlock ∧ k_ ≠ gb105 ∧ k_ ≠ gb106 ∧ k_ ≠ gb107 ∧ k_ ≠ gb108)) (Kd.R_types (Kd.R_types (Kd.R_types (Kd.R_types (Kd.R_apart' (Kd.R_apart' (HO153.out) (Kd.R_typed HO104.out) (by decide)) (Kd.R_typed HO111.out) (by decide)) BK105.out (by decide)) BK106.out (by decide)) BK107.out (by decide)) BK108.out (by decide)) (fun k_ hk => ⟨hk.1.1.1.1.1.2, ⟨hk.1.1.1.1.2, ⟨hk.1.1.1.2, ⟨hk.1.1.2, ⟨hk.1.2, hk.2⟩⟩⟩⟩⟩))))) (Reps.none _ _)))))))))))))))); intro v155 w81 ho82 hb hg_ hnew_; clear hg_ hnew_; (first | rw [← Ny154.out] at ho82 | (simp only [Int.reduceToNat] at ho82; rw [← Ny154.out] at ho82)); have n0_ := qR HO104 hb; have n1_ := qR HO111 hb; have n2_ := Aside0.mk (Kd.N_lower ho82 (qZ HB)); have n3_ := qB BK105 hb; have n4_ := qB BK106 hb; have n5_ := qB BK107 hb; have n6_ := qB BK108 hb; have n7_ := qS HB hb; clear HO104; clear HO111; clear BK105; clear BK106; clear BK107; clear BK108; clear HB; clear HO114; clear HO117; clear HO120; clear HO123; clear HO126; clear HO129; clear HO132; clear HO135; clear HO138; clear HO141; clear HO144; clear HO147; clear HO150; clear HO153; have HO104 := n0_; have HO111 := n1_; have HO156 := n2_; have BK105 := n3_; have BK106 := n4_; have BK107 := n5_; have BK108 := n6_; have HB := n7_; clear n0_ n1_ n2_ n3_ n4_ n5_ n6_ n7_; clear hb ho82) | ((with_reducible refine gate_dst (N := 73) rfl ?_); refine Kd.R_lit (Kd.int .i64) _ 3 ?hg (N := 73) ?hd (xs := ([2, 2, 0, 1, 2, 0, 2, 1, 1, 1, 1, 0, 2, 2] : List Int)) (inner := [.int .i64 2, .int .i64 2, .int .i64 0, .int .i64 1, .int .i64 2, .int .i64 0, .int .i64 2, .int .i64 1, .int .i64 1, .int .i64 1, .int .i64 1, .int .i64 0, .int .i64 2, .int .i64 2]) (ok := fun _ => True) (okp := fun _ => True) ?hr ?hp (fun _ hk => hk) trivial (Below.refl _ _) (Nat.le_refl _) (by simp) ?_; (case hd => rfl); (case hg => rfl); (case hr => first | (go_simp; done) | (go_simp; rfl)); (case hp => exact (Reps.one (show Kd.M (Kd.int .i64) _ _ _ 2 [.int .i64 2] from rfl) (Reps.one (show Kd.M (Kd.int .i64) _ _ _ 2 [.int .i64 2] from rfl) (Reps.one (show Kd.M (Kd.int .i64) _ _ _ 0 [.int .i64 0] from rfl) (Reps.one (show Kd.M (Kd.int .i64) _ _ _ 1 [.int .i64 1] from rfl) (Reps.one (show Kd.M (Kd.int .i64) _ _ _ 2 [.int .i64 2] from rfl) (Reps.one (show Kd.M (Kd.int .i64) _ _ _ 0 [.int .i64 0] from rfl) (Reps.one (show Kd.M (Kd.int .i64) _ _ _ 2 [.int .i64 2] from rfl) (Reps.one (show Kd.M (Kd.int .i64) _ _ _ 1 [.int .i64 1] from rfl) (Reps.one (show Kd.M (Kd.int .i64) _ _ _ 1 [.int .i64 1] from rfl) (Reps.one (show Kd.M (Kd.int .i64) _ _ _ 1 [.int .i64 1] from rfl) (Reps.one (show Kd.M (Kd.int .i64) _ _ _ 1 [.int .i64 1] from rfl) (Reps.one (show Kd.M (Kd.int .i64) _ _ _ 0 [.int .i64 0] from rfl) (Reps.one (show Kd.M (Kd.int .i64) _ _ _ 2 [.int .i64 2] from rfl) (Reps.one (show Kd.M (Kd.int .i64) _ _ _ 2 [.int .i64 2] from rfl) (Reps.none _ _)))))))))))))))); intro v158 w83 ho84 hb hg_ hnew_; clear hg_ hnew_; (first | rw [← Ny157.out] at ho84 | (simp only [Int.reduceToNat] at ho84; rw [← Ny157.out] at ho84)); have n0_ := qR HO104 hb; have n1_ := qR HO111 hb; have n2_ := Aside0.mk (Kd.N_elder' (by (with_reducible repeat (first | apply Kd.N_alloc | apply Kd.N_drewN | apply Kd.N_drew)); exact HO156.out) (Kd.R_base ho84) hb); have n3_ := Aside0.mk (Kd.R_lower ho84 (qZ HB)); have n4_ := qB BK105 hb; have n5_ := qB BK106 hb; have n6_ := qB BK107 hb; have n7_ := qB BK108 hb; have n8_ := qS HB hb; clear HO104; clear HO111; clear HO156; clear BK105; clear BK106; clear BK107; clear BK108; clear HB; have HO104 := n0_; have HO111 := n1_; have HO156 := n2_; have HO159 := n3_; have BK105 := n4_; have BK106 := n5_; have BK107 := n6_; have BK108 := n7_; have HB := n8_; clear n0_ n1_ n2_ n3_ n4_ n5_ n6_ n7_ n8_; clear hb ho84))
  go_loopg [8] k (fun kq v8 w' => ∃ (x8_1 : Int), v8 = .int .i64 x8_1 ∧ Aside0 (rabbetlaw23_PredForms.l0 kq y109 y154 y157 x8_1 y102 2 2 1 (⟨#[]⟩ : ByteArray) 4 0 (⟨#[98]⟩ : ByteArray) = some r) ∧ Aside0 (kq ≤ k) ∧ Aside0 (Kd.R k26 26 w' w.heap.size (fun k_ => k_ ≠ gb106 ∧ k_ ≠ gb107 ∧ k_ ≠ gb108) v110 y109) ∧ Aside0 (Kd.N (Kd.slice 28 k28) 23 w' w.heap.size (fun k_ => some k_ ≠ (v110 : Value).ownBlock ∧ some k_ ≠ (v158 : Value).ownBlock ∧ some k_ ≠ ((.slice Ao6 y102.length co6) : Value).ownBlock ∧ k_ ≠ gb105 ∧ k_ ≠ gb106 ∧ k_ ≠ gb107 ∧ k_ ≠ gb108) v155 y154) ∧ Aside0 (Kd.R (Kd.int .i64) 3 w' w.heap.size (fun _ => True) v158 y157) ∧ Aside0 (Kd.R k64 64 w' w.heap.size (fun _ => True) (.slice Ao6 y102.length co6) y102) ∧ Aside0 (w'.heap[gb105]? = some (.cells #[(.slice Ao6 y102.length co6), .int .i64 2] 33 (0, 0))) ∧ Aside0 (w'.heap[gb106]? = some (.cells #[.int .i64 2, .int .i64 1, .string (⟨#[]⟩ : ByteArray)] 26 (0, 0))) ∧ Aside0 (w'.heap[gb107]? = some (.cells #[.int .i64 1, .int .i64 2, .string (⟨#[]⟩ : ByteArray)] 26 (0, 0))) ∧ Aside0 (w'.heap[gb108]? = some (.cells #[.int .i64 4, .int .i64 0, .string (⟨#[98]⟩ : ByteArray)] 26 (0, 0))) ∧ Aside0 (Below w.heap.size w w'))
  case atStart => exact ⟨(0), (by first | rfl | (simp; done) | (simp [*]; done)), H', ⟨Nat.le_refl _⟩, ⟨by (with_reducible repeat (first | apply Kd.R_alloc | apply Kd.R_drewN | apply Kd.R_drew)); exact Kd.R_mono HO111.out (fun _ hk => ⟨hk.1.1.2, ⟨hk.1.2, hk.2⟩⟩)⟩, ⟨by (with_reducible repeat (first | apply Kd.N_alloc | apply Kd.N_drewN | apply Kd.N_drew)); exact Kd.N_mono HO156.out (fun _ hk => ⟨hk.1.2.1, ⟨hk.2, ⟨hk.1.1, ⟨hk.1.2.2.1, ⟨hk.1.2.2.2.1, ⟨hk.1.2.2.2.2.1, hk.1.2.2.2.2.2⟩⟩⟩⟩⟩⟩)⟩, ⟨by (with_reducible repeat (first | apply Kd.R_alloc | apply Kd.R_drewN | apply Kd.R_drew)); exact HO159.out⟩, ⟨by (with_reducible repeat (first | apply Kd.R_alloc | apply Kd.R_drewN | apply Kd.R_drew)); exact HO104.out⟩, ⟨by (with_reducible repeat (first | refine blk_drewN ?_ _ | refine blk_drew ?_ | refine blk_alloc ?_ _)); exact BK105.out⟩, ⟨by (with_reducible repeat (first | refine blk_drewN ?_ _ | refine blk_drew ?_ | refine blk_alloc ?_ _)); exact BK106.out⟩, ⟨by (with_reducible repeat (first | refine blk_drewN ?_ _ | refine blk_drew ?_ | refine blk_alloc ?_ _)); exact BK107.out⟩, ⟨by (with_reducible repeat (first | refine blk_drewN ?_ _ | refine blk_drew ?_ | refine blk_alloc ?_ _)); exact BK108.out⟩, ⟨by repeat (first | (with_reducible first | exact HB.out | apply below_alloc | apply pw_below_drewN | apply below_drew1 | refine below_set ?_ GE105.out | refine below_set ?_ GE106.out | refine below_set ?_ GE107.out | refine below_set ?_ GE108.out) | exact HB.out)⟩⟩
  case round =>
   clear H'
   try clear c1
   try clear c2
   try clear p2
   try clear c3
   try clear c5
   try clear c7
   try clear c11
   try clear c12
   try clear c14
   try clear c17
   try clear c18
   try clear c19
   try clear hcz13_0
   try clear hcz13_1
   try clear hcz13_2
   try clear hcz15_0
   try clear hcz15_1
   try clear hcz15_2
   try clear hcz20_0
   try clear hcz20_1
   try clear hcz20_2
   try clear hcz21_0
   try clear hcz21_1
   try clear hcz21_2
   try clear hcz24_0
   try clear hcz24_1
   try clear hcz24_2
   try clear hcz27_0
   try clear hcz27_1
   try clear hcz27_2
   try clear hcz30_0
   try clear hcz30_1
   try clear hcz30_2
   try clear hcz33_0
   try clear hcz33_1
   try clear hcz33_2
   try clear hcz42_0
   try clear hcz42_1
   try clear hcz42_2
   try clear hcz47_0
   try clear hcz47_1
   try clear hcz47_2
   try clear hcz48_0
   try clear hcz48_1
   try clear hcz48_2
   try clear hcz51_0
   try clear hcz51_1
   try clear hcz51_2
   try clear hcz52_0
   try clear hcz52_1
   try clear hcz52_2
   try clear hcz55_0
   try clear hcz55_1
   try clear hcz55_2
   try clear hcz56_0
   try clear hcz56_1
   try clear hcz56_2
   try clear hcz59_0
   try clear hcz59_1
   try clear hcz59_2
   try clear hcz60_0
   try clear hcz60_1
   try clear hcz60_2
   try clear hcz61_0
   try clear hcz61_1
   try clear hcz61_2
   try clear hcz64_0
   try clear hcz64_1
   try clear hcz64_2
   try clear hcz8_0
   try clear hcz8_1
   try clear hfz13_0
   try clear hfz13_1
   try clear hfz13_2
   try clear hfz15_0
   try clear hfz15_1
   try clear hfz15_2
   try clear hfz20_0
   try clear hfz20_1
   try clear hfz20_2
   try clear hfz21_0
   try clear hfz21_1
   try clear hfz21_2
   try clear hfz24_0
   try clear hfz24_1
   try clear hfz24_2
   try clear hfz27_0
   try clear hfz27_1
   try clear hfz27_2
   try clear hfz30_0
   try clear hfz30_1
   try clear hfz30_2
   try clear hfz33_0
   try clear hfz33_1
   try clear hfz33_2
   try clear hfz42_0
   try clear hfz42_1
   try clear hfz42_2
   try clear hfz47_0
   try clear hfz47_1
   try clear hfz47_2
   try clear hfz48_0
   try clear hfz48_1
   try clear hfz48_2
   try clear hfz51_0
   try clear hfz51_1
   try clear hfz51_2
   try clear hfz52_0
   try clear hfz52_1
   try clear hfz52_2
   try clear hfz55_0
   try clear hfz55_1
   try clear hfz55_2
   try clear hfz56_0
   try clear hfz56_1
   try clear hfz56_2
   try clear hfz59_0
   try clear hfz59_1
   try clear hfz59_2
   try clear hfz60_0
   try clear hfz60_1
   try clear hfz60_2
   try clear hfz61_0
   try clear hfz61_1
   try clear hfz61_2
   try clear hfz64_0
   try clear hfz64_1
   try clear hfz64_2
   try clear hfz8_0
   try clear hfz8_1
   obtain ⟨x8_1, rfl, HA, HK1, HO_5, HO_6, HO_7, HO_106000, BK105, BK106, BK107, BK108, HB⟩ := hrel
   cases gk with
   | zero => exact absurd HA.out (by simp [rabbetlaw23_PredForms.l0])
   | succ k1 =>
    have H := HA.out
    clear HA
    simp only [rabbetlaw23_PredForms.l0] at H
    by_cases c85 : x8_1 < (y154.length : Int)
    ·rw [if_pos c85] at H
     have c85b0 : decide (x8_1 < (y154.length : Int)) = true := decide_eq_true c85
     clear c85
     by_cases c86 : 0 ≤ x8_1
     ·rw [if_pos c86] at H
      have c86b0 : decide (0 ≤ x8_1) = true := decide_eq_true c86
      clear c86
      replace H := Option.bind_eq_some_iff.mp H
      obtain ⟨t161, A870, H⟩ := H
      replace H : (if t161 = 0 then ((pred_Row.f k1 y102 2 (rd_L13 y154 x8_1) y109).bind fun t163 => (if x8_1 < (y157.length : Int) then (if t163 = (rd y157 x8_1) then (rabbetlaw23_PredForms.l0 k1 y109 y154 y157 (wrap64 (x8_1 + 1)) y102 2 2 1 (⟨#[]⟩ : ByteArray) 4 0 (⟨#[98]⟩ : ByteArray)) else (some false)) else (none))) else (some false)) = some r := H
      have A87 := Aside0.mk A870
      clear A870
      by_cases c88 : t161 = 0
      ·rw [if_pos c88] at H
       have c88b0 : (t161 == 0) = true := beq_iff_eq.mpr c88
       have c88b1 : (t161 != 0) = false := bne_eq_false_iff_eq.mpr c88
       clear c88
       replace H := Option.bind_eq_some_iff.mp H
       obtain ⟨t163, A890, H⟩ := H
       replace H : (if x8_1 < (y157.length : Int) then (if t163 = (rd y157 x8_1) then (rabbetlaw23_PredForms.l0 k1 y109 y154 y157 (wrap64 (x8_1 + 1)) y102 2 2 1 (⟨#[]⟩ : ByteArray) 4 0 (⟨#[98]⟩ : ByteArray)) else (some false)) else (none)) = some r := H
       have A89 := Aside0.mk A890
       clear A890
       by_cases c90 : x8_1 < (y157.length : Int)
       ·rw [if_pos c90] at H
        have c90b0 : decide (x8_1 < (y157.length : Int)) = true := decide_eq_true c90
        clear c90
        by_cases c91 : t163 = (rd y157 x8_1)
        ·rw [if_pos c91] at H
         rename_i xi0_ xi1_ xi2_ xi3_ xi4_ xi5_ xi6_ xi7_ xi8_ xi9_ xi10_ xi11_; revert k r w hu64 hu33 hu26 hu28 A1 y102 Ny102 y109 Ny109 y112 Ny112 y115 Ny115 y118 Ny118 y121 Ny121 y124 Ny124 y127 Ny127 y130 Ny130 y133 Ny133 y136 Ny136 y139 Ny139 y142 Ny142 y145 Ny145 y148 Ny148 y151 Ny151 y154 Ny154 y157 Ny157 xi0_ w3 w4 Ao6 co6 gb105 w7 GW105 GE105 gb106 w9 GW106 GE106 NB105_106 NB106_105 gb107 w10 GW107 GE107 NB105_107 NB107_105 NB106_107 NB107_106 hnb11 hnc11 hnb12 hnc12 hnb14 hnc14 gb108 w16 GW108 GE108 NB105_108 NB108_105 NB106_108 NB108_106 NB107_108 NB108_107 hnb17 hnc17 hnb18 hnc18 hnb19 hnc19 v110 w22 w25 w28 w31 w34 w36 w38 w40 w43 w45 w49 w53 w57 w62 w65 Ao67 co67 Ao68 co68 Ao69 co69 Ao70 co70 Ao71 co71 Ao72 co72 Ao73 co73 Ao74 co74 Ao75 co75 Ao76 co76 Ao77 co77 Ao78 co78 Ao79 co79 Ao80 co80 v155 w81 v158 w83 HO104 HO111 HO156 HO159 xi1_ xi2_ xi3_ xi4_ xi5_ xi6_ xi7_ wr u0 u74 u75 u76 u77 u78 u79 u80 u81 u82 u83 u84 u85 u86 u87 u88 u89 u90 u91 u92 u93 u94 u95 u96 u97 u98 u99 u100 xi8_ xi9_ xi10_ x8_1 HO_5 HO_6 HO_7 HO_106000 BK105 BK106 BK107 BK108 HB k1 xi11_ HK1 c85b0 c86b0 t161 A87 c88b0 c88b1 t163 H A89 c90b0 c91; exact hole0_
        ·rw [if_neg c91] at H
         rename_i xi0_ xi1_ xi2_ xi3_ xi4_ xi5_ xi6_ xi7_ xi8_ xi9_ xi10_ xi11_; revert k r w hu64 hu33 hu26 hu28 A1 y102 Ny102 y109 Ny109 y112 Ny112 y115 Ny115 y118 Ny118 y121 Ny121 y124 Ny124 y127 Ny127 y130 Ny130 y133 Ny133 y136 Ny136 y139 Ny139 y142 Ny142 y145 Ny145 y148 Ny148 y151 Ny151 y154 Ny154 y157 Ny157 xi0_ w3 w4 Ao6 co6 gb105 w7 GW105 GE105 gb106 w9 GW106 GE106 NB105_106 NB106_105 gb107 w10 GW107 GE107 NB105_107 NB107_105 NB106_107 NB107_106 hnb11 hnc11 hnb12 hnc12 hnb14 hnc14 gb108 w16 GW108 GE108 NB105_108 NB108_105 NB106_108 NB108_106 NB107_108 NB108_107 hnb17 hnc17 hnb18 hnc18 hnb19 hnc19 v110 w22 w25 w28 w31 w34 w36 w38 w40 w43 w45 w49 w53 w57 w62 w65 Ao67 co67 Ao68 co68 Ao69 co69 Ao70 co70 Ao71 co71 Ao72 co72 Ao73 co73 Ao74 co74 Ao75 co75 Ao76 co76 Ao77 co77 Ao78 co78 Ao79 co79 Ao80 co80 v155 w81 v158 w83 HO104 HO111 HO156 HO159 xi1_ xi2_ xi3_ xi4_ xi5_ xi6_ xi7_ wr u0 u74 u75 u76 u77 u78 u79 u80 u81 u82 u83 u84 u85 u86 u87 u88 u89 u90 u91 u92 u93 u94 u95 u96 u97 u98 u99 u100 xi8_ xi9_ xi10_ x8_1 HO_5 HO_6 HO_7 HO_106000 BK105 BK106 BK107 BK108 HB k1 xi11_ HK1 c85b0 c86b0 t161 A87 c88b0 c88b1 t163 H A89 c90b0 c91; exact hole1_
       ·rw [if_neg c90] at H
        exact absurd H (by simp)
      ·rw [if_neg c88] at H
       rename_i xi0_ xi1_ xi2_ xi3_ xi4_ xi5_ xi6_ xi7_ xi8_ xi9_ xi10_ xi11_; revert k r w hu64 hu33 hu26 hu28 A1 y102 Ny102 y109 Ny109 y112 Ny112 y115 Ny115 y118 Ny118 y121 Ny121 y124 Ny124 y127 Ny127 y130 Ny130 y133 Ny133 y136 Ny136 y139 Ny139 y142 Ny142 y145 Ny145 y148 Ny148 y151 Ny151 y154 Ny154 y157 Ny157 xi0_ w3 w4 Ao6 co6 gb105 w7 GW105 GE105 gb106 w9 GW106 GE106 NB105_106 NB106_105 gb107 w10 GW107 GE107 NB105_107 NB107_105 NB106_107 NB107_106 hnb11 hnc11 hnb12 hnc12 hnb14 hnc14 gb108 w16 GW108 GE108 NB105_108 NB108_105 NB106_108 NB108_106 NB107_108 NB108_107 hnb17 hnc17 hnb18 hnc18 hnb19 hnc19 v110 w22 w25 w28 w31 w34 w36 w38 w40 w43 w45 w49 w53 w57 w62 w65 Ao67 co67 Ao68 co68 Ao69 co69 Ao70 co70 Ao71 co71 Ao72 co72 Ao73 co73 Ao74 co74 Ao75 co75 Ao76 co76 Ao77 co77 Ao78 co78 Ao79 co79 Ao80 co80 v155 w81 v158 w83 HO104 HO111 HO156 HO159 xi1_ xi2_ xi3_ xi4_ xi5_ xi6_ xi7_ wr u0 u74 u75 u76 u77 u78 u79 u80 u81 u82 u83 u84 u85 u86 u87 u88 u89 u90 u91 u92 u93 u94 u95 u96 u97 u98 u99 u100 xi8_ xi9_ xi10_ x8_1 HO_5 HO_6 HO_7 HO_106000 BK105 BK106 BK107 BK108 HB k1 xi11_ HK1 c85b0 c86b0 t161 H A87 c88; exact hole2_
     ·rw [if_neg c86] at H
      exact absurd H (by simp)
    ·rw [if_neg c85] at H
     have c85b0 : decide (x8_1 < (y154.length : Int)) = false := decide_eq_false c85
     clear c85
     by_cases c107 : 9 ≤ 4398046511104
     ·rw [if_pos c107] at H
      rename_i xi0_ xi1_ xi2_ xi3_ xi4_ xi5_ xi6_ xi7_ xi8_ xi9_ xi10_ xi11_; revert k r w hu64 hu33 hu26 hu28 A1 y102 Ny102 y109 Ny109 y112 Ny112 y115 Ny115 y118 Ny118 y121 Ny121 y124 Ny124 y127 Ny127 y130 Ny130 y133 Ny133 y136 Ny136 y139 Ny139 y142 Ny142 y145 Ny145 y148 Ny148 y151 Ny151 y154 Ny154 y157 Ny157 xi0_ w3 w4 Ao6 co6 gb105 w7 GW105 GE105 gb106 w9 GW106 GE106 NB105_106 NB106_105 gb107 w10 GW107 GE107 NB105_107 NB107_105 NB106_107 NB107_106 hnb11 hnc11 hnb12 hnc12 hnb14 hnc14 gb108 w16 GW108 GE108 NB105_108 NB108_105 NB106_108 NB108_106 NB107_108 NB108_107 hnb17 hnc17 hnb18 hnc18 hnb19 hnc19 v110 w22 w25 w28 w31 w34 w36 w38 w40 w43 w45 w49 w53 w57 w62 w65 Ao67 co67 Ao68 co68 Ao69 co69 Ao70 co70 Ao71 co71 Ao72 co72 Ao73 co73 Ao74 co74 Ao75 co75 Ao76 co76 Ao77 co77 Ao78 co78 Ao79 co79 Ao80 co80 v155 w81 v158 w83 HO104 HO111 HO156 HO159 xi1_ xi2_ xi3_ xi4_ xi5_ xi6_ xi7_ wr u0 u74 u75 u76 u77 u78 u79 u80 u81 u82 u83 u84 u85 u86 u87 u88 u89 u90 u91 u92 u93 u94 u95 u96 u97 u98 u99 u100 xi8_ xi9_ xi10_ x8_1 HO_5 HO_6 HO_7 HO_106000 BK105 BK106 BK107 BK108 HB k1 xi11_ HK1 H c85b0 c107; exact hole3_
     ·rw [if_neg c107] at H
      exact absurd H (by simp)
 ·replace c2 := Bool.eq_false_iff.mpr c2
  subst c2
  have H1 : (some false) = some r := by rw [if_neg (show ¬ (false = true) by decide)] at H; exact H
  clear H
  have H := H1
  clear H1
  obtain rfl := Option.some.inj H
  go_enter Try.func5, Try.ntmps5
  go_wp2_with (first | ((with_reducible refine gate_callee (f := 7) rfl ?_); refine goesL_ (some 12) rfl rfl Try.func7 (by kernel_rfl) rfl #[] rfl (by (try simp only [List.map_toArray, List.map_cons, List.map_nil]); first | done | rfl | (simp only [List.length_drop, List.length_take]; rfl)) ?_; (with_reducible refine (rabbetlaw23_begun.calls k  false _ A1.out).mono ?_); rintro e w165 ⟨rfl, hb⟩; refine ⟨_, rfl, ?_⟩; have n0_ := qS HB hb; clear HB; have HB := n0_; clear n0_; (try clear hb); (try clear hb2); (try clear hk); (try clear hi)))
  go_ret
  exact ⟨by first | rfl | (simp [errW_none, errW_some] <;> rfl) | (simp [*, errW_none, errW_some] <;> rfl), by repeat (first | (with_reducible first | exact HB.out | apply below_alloc | apply pw_below_drewN | apply below_drew1) | exact HB.out)⟩
end Go.Proofs.Ytiicfblccklfhaa.PPG2
end
section
namespace Go.Proofs.Ytiicfblccklfhaa.PPG2
open Go.RowKit Go.Proofs.YtiicfblccklfhaaW.PrintWords Go.Proofs.YtiicfblccklfhaaW.PrintLast Go.Proofs.YtiicfblccklfhaaW.PrintMore
attribute [local go_sem] max2_int min2_int max_two min_two max_three min_three max_four min_four
open Go.Proofs.Ytiicfblccklfhaa.Ext Go.Proofs.Ytiicfblccklfhaa.PK Go.Proofs.Ytiicfblccklfhaa.PPF
set_option linter.unusedVariables false
set_option linter.unusedSimpArgs false
set_option maxHeartbeats 80000000 in
set_option maxRecDepth 100000 in
theorem rabbetlaw23_PredForms.calls_r0 : rabbetlaw23_PredForms.calls_c.1 := by
  intro k r w hu64 hu33 hu26 hu28 A1 y102 Ny102 y109 Ny109 y112 Ny112 y115 Ny115 y118 Ny118 y121 Ny121 y124 Ny124 y127 Ny127 y130 Ny130 y133 Ny133 y136 Ny136 y139 Ny139 y142 Ny142 y145 Ny145 y148 Ny148 y151 Ny151 y154 Ny154 y157 Ny157 xi0_ w3 w4 Ao6 co6 gb105 w7 GW105 GE105 gb106 w9 GW106 GE106 NB105_106 NB106_105 gb107 w10 GW107 GE107 NB105_107 NB107_105 NB106_107 NB107_106 hnb11 hnc11 hnb12 hnc12 hnb14 hnc14 gb108 w16 GW108 GE108 NB105_108 NB108_105 NB106_108 NB108_106 NB107_108 NB108_107 hnb17 hnc17 hnb18 hnc18 hnb19 hnc19 v110 w22 w25 w28 w31 w34 w36 w38 w40 w43 w45 w49 w53 w57 w62 w65 Ao67 co67 Ao68 co68 Ao69 co69 Ao70 co70 Ao71 co71 Ao72 co72 Ao73 co73 Ao74 co74 Ao75 co75 Ao76 co76 Ao77 co77 Ao78 co78 Ao79 co79 Ao80 co80 v155 w81 v158 w83 HO104 HO111 HO156 HO159 xi1_ xi2_ xi3_ xi4_ xi5_ xi6_ xi7_ wr u0 u74 u75 u76 u77 u78 u79 u80 u81 u82 u83 u84 u85 u86 u87 u88 u89 u90 u91 u92 u93 u94 u95 u96 u97 u98 u99 u100 xi8_ xi9_ xi10_ x8_1 HO_5 HO_6 HO_7 HO_106000 BK105 BK106 BK107 BK108 HB k1 xi11_ HK1 c85b0 c86b0 t161 A87 c88b0 c88b1 t163 H A89 c90b0 c91
  have c91b0 : (t163 == (rd y157 x8_1)) = true := beq_iff_eq.mpr c91
  have c91b1 : (t163 != (rd y157 x8_1)) = false := bne_eq_false_iff_eq.mpr c91
  clear c91
  have H' := Aside0.mk H
  clear H
  obtain ⟨Ao92, co92, eo92⟩ := Kd.N_slice HO_6.out
  subst eo92
  try go_wp2
  have n0_ := Aside0.mk (Kd.R_drew HO_5.out)
  have n1_ := Aside0.mk (Kd.N_drew HO_6.out)
  have n2_ := Aside0.mk (Kd.R_drew HO_7.out)
  have n3_ := Aside0.mk (Kd.R_drew HO_106000.out)
  have n4_ := Aside0.mk (blk_drew BK105.out)
  have n5_ := Aside0.mk (blk_drew BK106.out)
  have n6_ := Aside0.mk (blk_drew BK107.out)
  have n7_ := Aside0.mk (blk_drew BK108.out)
  have n8_ := Aside0.mk (below_drew1 HB.out)
  clear HO_5
  clear HO_6
  clear HO_7
  clear HO_106000
  clear BK105
  clear BK106
  clear BK107
  clear BK108
  clear HB
  have HO_5 := n0_
  have HO_6 := n1_
  have HO_7 := n2_
  have HO_106000 := n3_
  have BK105 := n4_
  have BK106 := n5_
  have BK107 := n6_
  have BK108 := n7_
  have HB := n8_
  clear n0_ n1_ n2_ n3_ n4_ n5_ n6_ n7_ n8_
  have p160 : 0 ≤ (x8_1 : Int) := of_decide_eq_true (by first | (with_reducible assumption) | assumption)
  have q160 : x8_1 < (y154.length : Int) := of_decide_eq_true (by first | (with_reducible assumption) | assumption)
  obtain ⟨ad160, A160_0, c160_0, e160, hx160_0, hl160_0, hi160_0⟩ := at_L13 (Kd.N_reads' HO_6.out).2.2 x8_1 p160 q160
  cases e160
  obtain ⟨ce160, hce160, hMe160, hcc160⟩ := Kd.N_get HO_6.out [] x8_1 p160 (by first | exact q160 | exact of_decide_eq_true (by first | (with_reducible assumption) | assumption) | (have e_ := (Kd.N_reads' HO_6.out).1; omega))
  obtain ⟨ua160_0, uc160_0, rfl, ul160_0, ge160_0⟩ := Kd.FK_slice_open hMe160
  have hv160_0 := hcc160 0 _ rfl
  rw [Nat.add_zero, show ((Kd.slice 28 k28)).sz = 1 from rfl, Nat.mul_one] at hv160_0
  replace hv160_0 := Option.some.inj (hv160_0.symm.trans hx160_0)
  injection hv160_0 with hva_ hvn_ hvc_
  rw [hva_] at ge160_0
  rw [hvc_] at ul160_0
  have HL160_0 := Aside0.mk (show Kd.V k28 28 _ w.heap.size _ _ (rd_L13 y154 x8_1) from Kd.V_mk ul160_0 ge160_0)
  clear hva_ hvn_ hvc_ ge160_0 ul160_0
  clear hcc160 hce160
  have HR160_0 := Aside0.mk hi160_0
  have HC160_0 := Aside0.mk hl160_0
  clear hi160_0 hl160_0
  replace p160 := eq_true p160
  replace q160 := eq_true q160
  have p162 : 0 ≤ (x8_1 : Int) := of_decide_eq_true (by first | (with_reducible assumption) | assumption)
  have q162 : x8_1 < (y154.length : Int) := of_decide_eq_true (by first | (with_reducible assumption) | assumption)
  obtain ⟨ad162, A162_0, c162_0, e162, hx162_0, hl162_0, hi162_0⟩ := at_L13 (Kd.N_reads' HO_6.out).2.2 x8_1 p162 q162
  obtain rfl : ad160 = ad162 := (by injection e162)
  obtain ⟨ce162, hce162, hMe162, hcc162⟩ := Kd.N_get HO_6.out [] x8_1 p162 (by first | exact q162 | exact of_decide_eq_true (by first | (with_reducible assumption) | assumption) | (have e_ := (Kd.N_reads' HO_6.out).1; omega))
  obtain ⟨ua162_0, uc162_0, rfl, ul162_0, ge162_0⟩ := Kd.FK_slice_open hMe162
  have hv162_0 := hcc162 0 _ rfl
  rw [Nat.add_zero, show ((Kd.slice 28 k28)).sz = 1 from rfl, Nat.mul_one] at hv162_0
  replace hv162_0 := Option.some.inj (hv162_0.symm.trans hx162_0)
  injection hv162_0 with hva_ hvn_ hvc_
  rw [hva_] at ge162_0
  rw [hvc_] at ul162_0
  have HL162_0 := Aside0.mk (show Kd.V k28 28 _ w.heap.size _ _ (rd_L13 y154 x8_1) from Kd.V_mk ul162_0 ge162_0)
  clear hva_ hvn_ hvc_ ge162_0 ul162_0
  clear hcc162 hce162
  have HR162_0 := Aside0.mk hi162_0
  have HC162_0 := Aside0.mk hl162_0
  obtain ⟨e1_, e2_⟩ : A160_0 = A162_0 ∧ c160_0 = c162_0 := by (have h_ := hx160_0.symm.trans hx162_0; injection h_ with h_; injection h_ with h1_ _ h3_; exact ⟨h1_, h3_⟩)
  subst e1_
  subst e2_
  clear hi162_0 hl162_0
  replace p162 := eq_true p162
  replace q162 := eq_true q162
  have p164 : 0 ≤ (x8_1 : Int) := of_decide_eq_true (by first | (with_reducible assumption) | assumption)
  have q164 : x8_1 < (y157.length : Int) := of_decide_eq_true (by first | (with_reducible assumption) | assumption)
  obtain ⟨AZ164, cZ164, eZ164⟩ := Kd.R_slice HO_7.out; subst eZ164
  obtain ⟨ad164, e164, hx164_0⟩ := Kd.at_int (Kd.R_reads' HO_7.out).2.2 x8_1 p164 q164
  cases e164
  replace p164 := eq_true p164
  replace q164 := eq_true q164
  refine start_ (n := 21) (S := fun w' => w'.cell? ⟨gb105, 0, none⟩ = some (.slice Ao6 y102.length co6) ∧ w'.cell? ⟨gb105, 1, none⟩ = some (.int .i64 2) ∧ w'.cell? (ad160.add (x8_1).toNat) = some (.slice A160_0 (rd_L13 y154 x8_1).length c160_0) ∧ w'.cell? (ad160.add (x8_1).toNat) = some (.slice A160_0 (rd_L13 y154 x8_1).length c160_0) ∧ w'.cell? (ad164.add (x8_1).toNat) = some (.int .i64 (rd y157 x8_1))) (ds := []) #[false, false, false, false, false, false, false, false, false, false, false, false, false, false, false, false, false, false, false, false, false] (by kernel_rfl) rfl rfl ⟨(blk_cell BK105.out 0).trans rfl, (blk_cell BK105.out 1).trans rfl, hx160_0, hx162_0, hx164_0⟩ (fun hHeld => ?_); refine with_tabW rabbetlaw23_PredForms.tab12 rabbetlaw23_PredForms.bits12 (fun HT_ HW_ => ?_)
  generalize wr.drew = w93 at HO_5 HO_6 HO_7 HO_106000 BK105 BK106 BK107 BK108 HB HL160_0 HL162_0 HR160_0 HR162_0 hx160_0 hx162_0 hx164_0 hHeld ⊢
  refine pure_ (i := 1) (N := some 81) (v := ?_) (a' := ?_) #[false, true, false, false, false, false, false, false, false, false, false, false, false, false, false, false, false, false, false, false, false] rfl rfl (any_of HT_.out (by kernel_rfl)) (fun _ _ _ h => h) (Or.inl ⟨by rfl, ?_⟩) ?_ ?_
  rotate_left
  ·intro w'
   go_simp
   with_reducible rfl
  rotate_left
  ·simp only [Act.put, List.setIfInBounds_toArray, List.set_cons_zero, List.set_cons_succ, i64_w, i32_w]
   rfl
  refine pure_ (i := 2) (N := some 82) (v := ?_) (a' := ?_) #[false, true, true, false, false, false, false, false, false, false, false, false, false, false, false, false, false, false, false, false, false] rfl rfl (any_of HT_.out (by kernel_rfl)) (fun _ _ _ h => h) (Or.inl ⟨by rfl, ?_⟩) ?_ ?_
  rotate_left
  ·intro w'
   go_simp
   with_reducible rfl
  rotate_left
  ·simp only [Act.put, List.setIfInBounds_toArray, List.set_cons_zero, List.set_cons_succ, i64_w, i32_w]
   rfl
  refine pure_ (i := 3) (N := some 83) (v := ?_) (a' := ?_) #[false, true, true, true, false, false, false, false, false, false, false, false, false, false, false, false, false, false, false, false, false] rfl rfl (any_of HT_.out (by kernel_rfl)) (fun _ _ _ h => h) (Or.inl ⟨by rfl, ?_⟩) ?_ ?_
  rotate_left
  ·intro w'
   go_simp
   with_reducible rfl
  rotate_left
  ·simp only [Act.put, List.setIfInBounds_toArray, List.set_cons_zero, List.set_cons_succ, i64_w, i32_w]
   rfl
  refine take_ (i := 0) (N := some 80) (v := ?_) (a' := ?_) #[true, true, true, true, false, false, false, false, false, false, false, false, false, false, false, false, false, false, false, false, false] rfl rfl (take_ofW HT_.out HW_.out (by kernel_rfl)) (fun _ _ _ h => h) (Or.inl ⟨by rfl, ?_⟩) hHeld ?_ ?_
  rotate_left
  ·rintro w' ⟨s0, s1, s2, s3, s4⟩
   go_simp
   with_reducible rfl
  rotate_left
  ·simp only [Act.put, List.setIfInBounds_toArray, List.set_cons_zero, List.set_cons_succ, i64_w, i32_w]
   rfl
  refine take_ (i := 4) (N := some 84) (v := ?_) (a' := ?_) #[true, true, true, true, true, false, false, false, false, false, false, false, false, false, false, false, false, false, false, false, false] rfl rfl (take_ofW HT_.out HW_.out (by kernel_rfl)) (fun _ _ _ h => h) (Or.inl ⟨by rfl, ?_⟩) hHeld ?_ ?_
  rotate_left
  ·rintro w' ⟨s0, s1, s2, s3, s4⟩
   go_simp
   with_reducible rfl
  rotate_left
  ·simp only [Act.put, List.setIfInBounds_toArray, List.set_cons_zero, List.set_cons_succ, i64_w, i32_w]
   rfl
  refine one_ (i := 5) (N := some 85) #[true, true, true, true, true, true, false, false, false, false, false, false, false, false, false, false, false, false, false, false, false] rfl rfl (one_of HT_.out (by kernel_rfl)) (by decide) (fun K hK => ?_)
  refine goes_ Try.func13 (by kernel_rfl) rfl #[.agg #[.slice Ao6 y102.length co6, .int .i64 2], .slice A160_0 (rd_L13 y154 x8_1).length c160_0] (by rfl) rfl rfl (by (try simp only [List.map_toArray, List.map_cons, List.map_nil]); first | done | rfl | (simp only [List.length_drop, List.length_take]; rfl)) ?_
  with_reducible refine (pred_Check.calls _ _ y102 2 _ _ (rd_L13 y154 x8_1) t161 _ ?side1 ?side2 ?side3 ?side4 A87.out).mono ?_
  (case side1 => repeat (first | exact (Kd.R_reads' HO_106000.out).2.2 | (with_reducible refine Kd.C_alloc ?_ _) | (with_reducible refine Kd.C_drewN ?_ _) | (with_reducible refine Kd.C_drew ?_)))
  (case side2 => exact (Kd.R_reads' HO_106000.out).2.1)
  (case side3 => repeat (first | exact (by repeat (first | (with_reducible exact HR160_0.out) | (with_reducible refine Kd.C_alloc ?_ _) | (with_reducible refine Kd.C_drewN ?_ _) | (with_reducible refine Kd.C_drew ?_) | exact HR160_0.out)) | (with_reducible refine Kd.C_alloc ?_ _) | (with_reducible refine Kd.C_drewN ?_ _) | (with_reducible refine Kd.C_drew ?_)))
  (case side4 => exact HC160_0.out)
  rintro e w94 ⟨rfl, hb⟩
  have HS2_ := (hb.cell (World.block_lt_of_cell? _ _ (hHeld.2.2.1))).trans (hHeld.2.2.1)
  have HS3_ := (hb.cell (World.block_lt_of_cell? _ _ (hHeld.2.2.2.1))).trans (hHeld.2.2.2.1)
  have HS4_ := (hb.cell (World.block_lt_of_cell? _ _ (hHeld.2.2.2.2))).trans (hHeld.2.2.2.2)
  refine ⟨_, rfl, ?_⟩
  replace HL162_0 := Aside0.mk (Kd.V_below (by (with_reducible repeat (first | apply Kd.V_alloc | apply Kd.V_drewN | apply Kd.V_drew)); exact HL162_0.out) hb)
  replace HR162_0 := Aside0.mk (Kd.C_below (by repeat (first | (with_reducible exact HR162_0.out) | (with_reducible refine Kd.C_alloc ?_ _) | (with_reducible refine Kd.C_drewN ?_ _) | (with_reducible refine Kd.C_drew ?_) | exact HR162_0.out)) hb)
  have n0_ := qR HO_5 hb
  have n1_ := Aside0.mk (Kd.N_below (by (with_reducible repeat (first | apply Kd.N_alloc | apply Kd.N_drewN | apply Kd.N_drew)); exact HO_6.out) hb)
  have n2_ := qR HO_7 hb
  have n3_ := qR HO_106000 hb
  have n4_ := Aside0.mk (Kd.V_below (by (with_reducible repeat (first | apply Kd.V_alloc | apply Kd.V_drewN | apply Kd.V_drew)); exact HL160_0.out) hb)
  have n5_ := qB BK105 hb
  have n6_ := qB BK106 hb
  have n7_ := qB BK107 hb
  have n8_ := qB BK108 hb
  have n9_ := Aside0.mk (Kd.C_below (by repeat (first | (with_reducible exact HR160_0.out) | (with_reducible refine Kd.C_alloc ?_ _) | (with_reducible refine Kd.C_drewN ?_ _) | (with_reducible refine Kd.C_drew ?_) | exact HR160_0.out)) hb)
  have n10_ := qS HB hb
  clear HO_5
  clear HO_6
  clear HO_7
  clear HO_106000
  clear HL160_0
  clear BK105
  clear BK106
  clear BK107
  clear BK108
  clear HR160_0
  clear HB
  have HO_5 := n0_
  have HO_6 := n1_
  have HO_7 := n2_
  have HO_106000 := n3_
  have HL160_0 := n4_
  have BK105 := n5_
  have BK106 := n6_
  have BK107 := n7_
  have BK108 := n8_
  have HR160_0 := n9_
  have HB := n10_
  clear n0_ n1_ n2_ n3_ n4_ n5_ n6_ n7_ n8_ n9_ n10_
  (try clear hb)
  (try clear hb2)
  (try clear hk)
  (try clear hi)
  obtain ⟨Ao95, co95, eo95⟩ := Kd.R_slice HO_5.out
  (first | subst eo95 | (injection eo95 with f1_ f2_ f3_; have f4_ := f1_.symm; have f5_ := f3_.symm; clear f1_ f2_ f3_; subst f4_; subst f5_))
  refine hK.out _ _ ⟨(blk_cell BK105.out 0).trans rfl, (blk_cell BK105.out 1).trans rfl, HS2_, HS3_, HS4_⟩ (fun hHeld => ?_)
  clear hK K
  refine norm_ (a' := ?_) ?_ ?_
  rotate_left
  ·show Act.put _ (some 85) _ = _
   simp only [Act.put, List.setIfInBounds_toArray, List.set_cons_zero, List.set_cons_succ, i64_w, i32_w]
   rfl
  refine pure_ (i := 6) (N := some 86) (v := ?_) (a' := ?_) #[true, true, true, true, true, true, true, false, false, false, false, false, false, false, false, false, false, false, false, false, false] rfl rfl (any_of HT_.out (by kernel_rfl)) (fun _ _ _ h => h) (Or.inl ⟨by rfl, ?_⟩) ?_ ?_
  rotate_left
  ·intro w'
   go_simp
   with_reducible rfl
  rotate_left
  ·simp only [Act.put, List.setIfInBounds_toArray, List.set_cons_zero, List.set_cons_succ, i64_w, i32_w]
   rfl
  refine pure_ (i := 7) (N := some 87) (v := ?_) (a' := ?_) #[true, true, true, true, true, true, true, true, false, false, false, false, false, false, false, false, false, false, false, false, false] rfl rfl (any_of HT_.out (by kernel_rfl)) (fun _ _ _ h => h) (Or.inl ⟨by rfl, ?_⟩) ?_ ?_
  rotate_left
  ·intro w'
   go_simp
   with_reducible rfl
  rotate_left
  ·simp only [Act.put, List.setIfInBounds_toArray, List.set_cons_zero, List.set_cons_succ, i64_w, i32_w]
   rfl
  refine pure_ (i := 9) (N := some 89) (v := ?_) (a' := ?_) #[true, true, true, true, true, true, true, true, false, true, false, false, false, false, false, false, false, false, false, false, false] rfl rfl (any_of HT_.out (by kernel_rfl)) (fun _ _ _ h => h) (Or.inl ⟨by rfl, ?_⟩) ?_ ?_
  rotate_left
  ·intro w'
   go_simp
   with_reducible rfl
  rotate_left
  ·simp only [Act.put, List.setIfInBounds_toArray, List.set_cons_zero, List.set_cons_succ, i64_w, i32_w]
   rfl
  refine pure_ (i := 10) (N := some 90) (v := ?_) (a' := ?_) #[true, true, true, true, true, true, true, true, false, true, true, false, false, false, false, false, false, false, false, false, false] rfl rfl (any_of HT_.out (by kernel_rfl)) (fun _ _ _ h => h) (Or.inl ⟨by rfl, ?_⟩) ?_ ?_
  rotate_left
  ·intro w'
   go_simp
   with_reducible rfl
  rotate_left
  ·simp only [Act.put, List.setIfInBounds_toArray, List.set_cons_zero, List.set_cons_succ, i64_w, i32_w]
   rfl
  refine pure_ (i := 11) (N := some 91) (v := ?_) (a' := ?_) #[true, true, true, true, true, true, true, true, false, true, true, true, false, false, false, false, false, false, false, false, false] rfl rfl (any_of HT_.out (by kernel_rfl)) (fun _ _ _ h => h) (Or.inl ⟨by rfl, ?_⟩) ?_ ?_
  rotate_left
  ·intro w'
   go_simp
   with_reducible rfl
  rotate_left
  ·simp only [Act.put, List.setIfInBounds_toArray, List.set_cons_zero, List.set_cons_succ, i64_w, i32_w]
   rfl
  refine pure_ (i := 13) (N := some 93) (v := ?_) (a' := ?_) #[true, true, true, true, true, true, true, true, false, true, true, true, false, true, false, false, false, false, false, false, false] rfl rfl (any_of HT_.out (by kernel_rfl)) (fun _ _ _ h => h) (Or.inl ⟨by rfl, ?_⟩) ?_ ?_
  rotate_left
  ·intro w'
   go_simp
   with_reducible rfl
  rotate_left
  ·simp only [Act.put, List.setIfInBounds_toArray, List.set_cons_zero, List.set_cons_succ, i64_w, i32_w]
   rfl
  refine pure_ (i := 15) (N := some 95) (v := ?_) (a' := ?_) #[true, true, true, true, true, true, true, true, false, true, true, true, false, true, false, true, false, false, false, false, false] rfl rfl (any_of HT_.out (by kernel_rfl)) (fun _ _ _ h => h) (Or.inl ⟨by rfl, ?_⟩) ?_ ?_
  rotate_left
  ·intro w'
   go_simp
   with_reducible rfl
  rotate_left
  ·simp only [Act.put, List.setIfInBounds_toArray, List.set_cons_zero, List.set_cons_succ, i64_w, i32_w]
   rfl
  refine pure_ (i := 16) (N := some 96) (v := ?_) (a' := ?_) #[true, true, true, true, true, true, true, true, false, true, true, true, false, true, false, true, true, false, false, false, false] rfl rfl (any_of HT_.out (by kernel_rfl)) (fun _ _ _ h => h) (Or.inl ⟨by rfl, ?_⟩) ?_ ?_
  rotate_left
  ·intro w'
   go_simp
   with_reducible rfl
  rotate_left
  ·simp only [Act.put, List.setIfInBounds_toArray, List.set_cons_zero, List.set_cons_succ, i64_w, i32_w]
   rfl
  refine pure_ (i := 17) (N := some 97) (v := ?_) (a' := ?_) #[true, true, true, true, true, true, true, true, false, true, true, true, false, true, false, true, true, true, false, false, false] rfl rfl (any_of HT_.out (by kernel_rfl)) (fun _ _ _ h => h) (Or.inl ⟨by rfl, ?_⟩) ?_ ?_
  rotate_left
  ·intro w'
   go_simp
   with_reducible rfl
  rotate_left
  ·simp only [Act.put, List.setIfInBounds_toArray, List.set_cons_zero, List.set_cons_succ, i64_w, i32_w]
   rfl
  refine take_ (i := 8) (N := some 88) (v := ?_) (a' := ?_) #[true, true, true, true, true, true, true, true, true, true, true, true, false, true, false, true, true, true, false, false, false] rfl rfl (take_ofW HT_.out HW_.out (by kernel_rfl)) (fun _ _ _ h => h) (Or.inl ⟨by rfl, ?_⟩) hHeld ?_ ?_
  rotate_left
  ·rintro w' ⟨s0, s1, s2, s3, s4⟩
   go_simp
   with_reducible rfl
  rotate_left
  ·simp only [Act.put, List.setIfInBounds_toArray, List.set_cons_zero, List.set_cons_succ, i64_w, i32_w]
   rfl
  refine take_ (i := 12) (N := some 92) (v := ?_) (a' := ?_) #[true, true, true, true, true, true, true, true, true, true, true, true, true, true, false, true, true, true, false, false, false] rfl rfl (take_ofW HT_.out HW_.out (by kernel_rfl)) (fun _ _ _ h => h) (Or.inl ⟨by rfl, ?_⟩) hHeld ?_ ?_
  rotate_left
  ·rintro w' ⟨s0, s1, s2, s3, s4⟩
   go_simp
   with_reducible rfl
  rotate_left
  ·simp only [Act.put, List.setIfInBounds_toArray, List.set_cons_zero, List.set_cons_succ, i64_w, i32_w]
   rfl
  refine take_ (i := 18) (N := some 98) (v := ?_) (a' := ?_) #[true, true, true, true, true, true, true, true, true, true, true, true, true, true, false, true, true, true, true, false, false] rfl rfl (take_ofW HT_.out HW_.out (by kernel_rfl)) (fun _ _ _ h => h) (Or.inl ⟨by rfl, ?_⟩) hHeld ?_ ?_
  rotate_left
  ·rintro w' ⟨s0, s1, s2, s3, s4⟩
   go_simp
   with_reducible rfl
  rotate_left
  ·simp only [Act.put, List.setIfInBounds_toArray, List.set_cons_zero, List.set_cons_succ, i64_w, i32_w]
   rfl
  refine one_ (i := 14) (N := some 94) #[true, true, true, true, true, true, true, true, true, true, true, true, true, true, true, true, true, true, true, false, false] rfl rfl (one_of HT_.out (by kernel_rfl)) (by decide) (fun K hK => ?_)
  refine goes_ Try.func17 (by kernel_rfl) rfl #[.agg #[.slice Ao6 y102.length co6, .int .i64 2], .slice A160_0 (rd_L13 y154 x8_1).length c160_0, .slice Ao95 y109.length co95] (by rfl) rfl rfl (by (try simp only [List.map_toArray, List.map_cons, List.map_nil]); first | done | rfl | (simp only [List.length_drop, List.length_take]; rfl)) ?_
  with_reducible refine (pred_Row.calls k1 _ _ y102 2 _ _ (rd_L13 y154 x8_1) _ _ y109 t163 _ ?side1 ?side2 ?side3 ?side4 ?side5 ?side6 A89.out).mono ?_
  (case side1 => repeat (first | exact (Kd.R_reads' HO_106000.out).2.2 | (with_reducible refine Kd.C_alloc ?_ _) | (with_reducible refine Kd.C_drewN ?_ _) | (with_reducible refine Kd.C_drew ?_)))
  (case side2 => exact (Kd.R_reads' HO_106000.out).2.1)
  (case side3 => repeat (first | exact (by repeat (first | (with_reducible exact HR162_0.out) | (with_reducible refine Kd.C_alloc ?_ _) | (with_reducible refine Kd.C_drewN ?_ _) | (with_reducible refine Kd.C_drew ?_) | exact HR162_0.out)) | (with_reducible refine Kd.C_alloc ?_ _) | (with_reducible refine Kd.C_drewN ?_ _) | (with_reducible refine Kd.C_drew ?_)))
  (case side4 => exact HC162_0.out)
  (case side5 => repeat (first | exact (Kd.R_reads' HO_5.out).2.2 | (with_reducible refine Kd.C_alloc ?_ _) | (with_reducible refine Kd.C_drewN ?_ _) | (with_reducible refine Kd.C_drew ?_)))
  (case side6 => exact (Kd.R_reads' HO_5.out).2.1)
  rintro e w96 ⟨rfl, hb⟩
  have HS2_ := (hb.cell (World.block_lt_of_cell? _ _ (hHeld.2.2.1))).trans (hHeld.2.2.1)
  have HS3_ := (hb.cell (World.block_lt_of_cell? _ _ (hHeld.2.2.2.1))).trans (hHeld.2.2.2.1)
  have HS4_ := (hb.cell (World.block_lt_of_cell? _ _ (hHeld.2.2.2.2))).trans (hHeld.2.2.2.2)
  refine ⟨_, rfl, ?_⟩
  have n0_ := qR HO_5 hb
  have n1_ := Aside0.mk (Kd.N_below (by (with_reducible repeat (first | apply Kd.N_alloc | apply Kd.N_drewN | apply Kd.N_drew)); exact HO_6.out) hb)
  have n2_ := qR HO_7 hb
  have n3_ := qR HO_106000 hb
  have n4_ := Aside0.mk (Kd.V_below (by (with_reducible repeat (first | apply Kd.V_alloc | apply Kd.V_drewN | apply Kd.V_drew)); exact HL160_0.out) hb)
  have n5_ := Aside0.mk (Kd.V_below (by (with_reducible repeat (first | apply Kd.V_alloc | apply Kd.V_drewN | apply Kd.V_drew)); exact HL162_0.out) hb)
  have n6_ := qB BK105 hb
  have n7_ := qB BK106 hb
  have n8_ := qB BK107 hb
  have n9_ := qB BK108 hb
  have n10_ := Aside0.mk (Kd.C_below (by repeat (first | (with_reducible exact HR160_0.out) | (with_reducible refine Kd.C_alloc ?_ _) | (with_reducible refine Kd.C_drewN ?_ _) | (with_reducible refine Kd.C_drew ?_) | exact HR160_0.out)) hb)
  have n11_ := Aside0.mk (Kd.C_below (by repeat (first | (with_reducible exact HR162_0.out) | (with_reducible refine Kd.C_alloc ?_ _) | (with_reducible refine Kd.C_drewN ?_ _) | (with_reducible refine Kd.C_drew ?_) | exact HR162_0.out)) hb)
  have n12_ := qS HB hb
  clear HO_5
  clear HO_6
  clear HO_7
  clear HO_106000
  clear HL160_0
  clear HL162_0
  clear BK105
  clear BK106
  clear BK107
  clear BK108
  clear HR160_0
  clear HR162_0
  clear HB
  have HO_5 := n0_
  have HO_6 := n1_
  have HO_7 := n2_
  have HO_106000 := n3_
  have HL160_0 := n4_
  have HL162_0 := n5_
  have BK105 := n6_
  have BK106 := n7_
  have BK107 := n8_
  have BK108 := n9_
  have HR160_0 := n10_
  have HR162_0 := n11_
  have HB := n12_
  clear n0_ n1_ n2_ n3_ n4_ n5_ n6_ n7_ n8_ n9_ n10_ n11_ n12_
  (try clear hb)
  (try clear hb2)
  (try clear hk)
  (try clear hi)
  obtain ⟨Ao97, co97, eo97⟩ := Kd.R_slice HO_7.out
  (first | subst eo97 | (injection eo97 with f1_ f2_ f3_; have f4_ := f1_.symm; have f5_ := f3_.symm; clear f1_ f2_ f3_; subst f4_; subst f5_))
  refine hK.out _ _ ⟨(blk_cell BK105.out 0).trans rfl, (blk_cell BK105.out 1).trans rfl, HS2_, HS3_, HS4_⟩ (fun hHeld => ?_)
  clear hK K
  refine norm_ (a' := ?_) ?_ ?_
  rotate_left
  ·show Act.put _ (some 94) _ = _
   simp only [Act.put, List.setIfInBounds_toArray, List.set_cons_zero, List.set_cons_succ, i64_w, i32_w]
   rfl
  refine pure_ (i := 19) (N := some 99) (v := ?_) (a' := ?_) #[true, true, true, true, true, true, true, true, true, true, true, true, true, true, true, true, true, true, true, true, false] rfl rfl (any_of HT_.out (by kernel_rfl)) (fun _ _ _ h => h) (Or.inl ⟨by rfl, ?_⟩) ?_ ?_
  rotate_left
  ·intro w'
   go_simp
   with_reducible rfl
  rotate_left
  ·simp only [Act.put, List.setIfInBounds_toArray, List.set_cons_zero, List.set_cons_succ, i64_w, i32_w]
   rfl
  refine pure_ (i := 20) (N := some 100) (v := ?_) (a' := ?_) #[true, true, true, true, true, true, true, true, true, true, true, true, true, true, true, true, true, true, true, true, true] rfl rfl (any_of HT_.out (by kernel_rfl)) (fun _ _ _ h => h) (Or.inl ⟨by rfl, ?_⟩) ?_ ?_
  rotate_left
  ·intro w'
   go_simp
   with_reducible rfl
  rotate_left
  ·simp only [Act.put, List.setIfInBounds_toArray, List.set_cons_zero, List.set_cons_succ, i64_w, i32_w]
   rfl
  refine done_ (done_of HT_.out (by kernel_rfl)) ?_
  try go_wp2
  go_roundg k1
  case measure => have := HK1.out; omega
  case rel => exact ⟨(wrap64 (x8_1 + 1)), (by first | rfl | (simp; done) | (simp [*]; done)), H', ⟨by have := HK1.out; omega⟩, ⟨by (with_reducible repeat (first | apply Kd.R_alloc | apply Kd.R_drewN | apply Kd.R_drew)); exact HO_5.out⟩, ⟨by (with_reducible repeat (first | apply Kd.N_alloc | apply Kd.N_drewN | apply Kd.N_drew)); exact HO_6.out⟩, ⟨by (with_reducible repeat (first | apply Kd.R_alloc | apply Kd.R_drewN | apply Kd.R_drew)); exact HO_7.out⟩, ⟨by (with_reducible repeat (first | apply Kd.R_alloc | apply Kd.R_drewN | apply Kd.R_drew)); exact HO_106000.out⟩, ⟨by (with_reducible repeat (first | refine blk_drewN ?_ _ | refine blk_drew ?_ | refine blk_alloc ?_ _)); exact BK105.out⟩, ⟨by (with_reducible repeat (first | refine blk_drewN ?_ _ | refine blk_drew ?_ | refine blk_alloc ?_ _)); exact BK106.out⟩, ⟨by (with_reducible repeat (first | refine blk_drewN ?_ _ | refine blk_drew ?_ | refine blk_alloc ?_ _)); exact BK107.out⟩, ⟨by (with_reducible repeat (first | refine blk_drewN ?_ _ | refine blk_drew ?_ | refine blk_alloc ?_ _)); exact BK108.out⟩, ⟨by repeat (first | (with_reducible first | exact HB.out | apply below_alloc | apply pw_below_drewN | apply below_drew1 | refine below_set ?_ GE105.out | refine below_set ?_ GE106.out | refine below_set ?_ GE107.out | refine below_set ?_ GE108.out) | exact HB.out)⟩⟩
end Go.Proofs.Ytiicfblccklfhaa.PPG2
end
section
namespace Go.Proofs.Ytiicfblccklfhaa.PPG2
open Go.RowKit Go.Proofs.YtiicfblccklfhaaW.PrintWords Go.Proofs.YtiicfblccklfhaaW.PrintLast Go.Proofs.YtiicfblccklfhaaW.PrintMore
attribute [local go_sem] max2_int min2_int max_two min_two max_three min_three max_four min_four
open Go.Proofs.Ytiicfblccklfhaa.Ext Go.Proofs.Ytiicfblccklfhaa.PK Go.Proofs.Ytiicfblccklfhaa.PPF
set_option linter.unusedVariables false
set_option linter.unusedSimpArgs false
set_option maxHeartbeats 80000000 in
set_option maxRecDepth 100000 in
theorem rabbetlaw23_PredForms.calls_r1 : rabbetlaw23_PredForms.calls_c.2.1 := by
  intro k r w hu64 hu33 hu26 hu28 A1 y102 Ny102 y109 Ny109 y112 Ny112 y115 Ny115 y118 Ny118 y121 Ny121 y124 Ny124 y127 Ny127 y130 Ny130 y133 Ny133 y136 Ny136 y139 Ny139 y142 Ny142 y145 Ny145 y148 Ny148 y151 Ny151 y154 Ny154 y157 Ny157 xi0_ w3 w4 Ao6 co6 gb105 w7 GW105 GE105 gb106 w9 GW106 GE106 NB105_106 NB106_105 gb107 w10 GW107 GE107 NB105_107 NB107_105 NB106_107 NB107_106 hnb11 hnc11 hnb12 hnc12 hnb14 hnc14 gb108 w16 GW108 GE108 NB105_108 NB108_105 NB106_108 NB108_106 NB107_108 NB108_107 hnb17 hnc17 hnb18 hnc18 hnb19 hnc19 v110 w22 w25 w28 w31 w34 w36 w38 w40 w43 w45 w49 w53 w57 w62 w65 Ao67 co67 Ao68 co68 Ao69 co69 Ao70 co70 Ao71 co71 Ao72 co72 Ao73 co73 Ao74 co74 Ao75 co75 Ao76 co76 Ao77 co77 Ao78 co78 Ao79 co79 Ao80 co80 v155 w81 v158 w83 HO104 HO111 HO156 HO159 xi1_ xi2_ xi3_ xi4_ xi5_ xi6_ xi7_ wr u0 u74 u75 u76 u77 u78 u79 u80 u81 u82 u83 u84 u85 u86 u87 u88 u89 u90 u91 u92 u93 u94 u95 u96 u97 u98 u99 u100 xi8_ xi9_ xi10_ x8_1 HO_5 HO_6 HO_7 HO_106000 BK105 BK106 BK107 BK108 HB k1 xi11_ HK1 c85b0 c86b0 t161 A87 c88b0 c88b1 t163 H A89 c90b0 c91
  have c91b0 : (t163 == (rd y157 x8_1)) = false := beq_eq_false_iff_ne.mpr c91
  have c91b1 : (t163 != (rd y157 x8_1)) = true := bne_iff_ne.mpr c91
  obtain rfl := Option.some.inj H
  obtain ⟨Ao98, co98, eo98⟩ := Kd.N_slice HO_6.out
  subst eo98
  try go_wp2
  have n0_ := Aside0.mk (Kd.R_drew HO_5.out)
  have n1_ := Aside0.mk (Kd.N_drew HO_6.out)
  have n2_ := Aside0.mk (Kd.R_drew HO_7.out)
  have n3_ := Aside0.mk (Kd.R_drew HO_106000.out)
  have n4_ := Aside0.mk (blk_drew BK105.out)
  have n5_ := Aside0.mk (blk_drew BK106.out)
  have n6_ := Aside0.mk (blk_drew BK107.out)
  have n7_ := Aside0.mk (blk_drew BK108.out)
  have n8_ := Aside0.mk (below_drew1 HB.out)
  clear HO_5
  clear HO_6
  clear HO_7
  clear HO_106000
  clear BK105
  clear BK106
  clear BK107
  clear BK108
  clear HB
  have HO_5 := n0_
  have HO_6 := n1_
  have HO_7 := n2_
  have HO_106000 := n3_
  have BK105 := n4_
  have BK106 := n5_
  have BK107 := n6_
  have BK108 := n7_
  have HB := n8_
  clear n0_ n1_ n2_ n3_ n4_ n5_ n6_ n7_ n8_
  have p160 : 0 ≤ (x8_1 : Int) := of_decide_eq_true (by first | (with_reducible assumption) | assumption)
  have q160 : x8_1 < (y154.length : Int) := of_decide_eq_true (by first | (with_reducible assumption) | assumption)
  obtain ⟨ad160, A160_0, c160_0, e160, hx160_0, hl160_0, hi160_0⟩ := at_L13 (Kd.N_reads' HO_6.out).2.2 x8_1 p160 q160
  cases e160
  obtain ⟨ce160, hce160, hMe160, hcc160⟩ := Kd.N_get HO_6.out [] x8_1 p160 (by first | exact q160 | exact of_decide_eq_true (by first | (with_reducible assumption) | assumption) | (have e_ := (Kd.N_reads' HO_6.out).1; omega))
  obtain ⟨ua160_0, uc160_0, rfl, ul160_0, ge160_0⟩ := Kd.FK_slice_open hMe160
  have hv160_0 := hcc160 0 _ rfl
  rw [Nat.add_zero, show ((Kd.slice 28 k28)).sz = 1 from rfl, Nat.mul_one] at hv160_0
  replace hv160_0 := Option.some.inj (hv160_0.symm.trans hx160_0)
  injection hv160_0 with hva_ hvn_ hvc_
  rw [hva_] at ge160_0
  rw [hvc_] at ul160_0
  have HL160_0 := Aside0.mk (show Kd.V k28 28 _ w.heap.size _ _ (rd_L13 y154 x8_1) from Kd.V_mk ul160_0 ge160_0)
  clear hva_ hvn_ hvc_ ge160_0 ul160_0
  clear hcc160 hce160
  have HR160_0 := Aside0.mk hi160_0
  have HC160_0 := Aside0.mk hl160_0
  clear hi160_0 hl160_0
  replace p160 := eq_true p160
  replace q160 := eq_true q160
  have p162 : 0 ≤ (x8_1 : Int) := of_decide_eq_true (by first | (with_reducible assumption) | assumption)
  have q162 : x8_1 < (y154.length : Int) := of_decide_eq_true (by first | (with_reducible assumption) | assumption)
  obtain ⟨ad162, A162_0, c162_0, e162, hx162_0, hl162_0, hi162_0⟩ := at_L13 (Kd.N_reads' HO_6.out).2.2 x8_1 p162 q162
  obtain rfl : ad160 = ad162 := (by injection e162)
  obtain ⟨ce162, hce162, hMe162, hcc162⟩ := Kd.N_get HO_6.out [] x8_1 p162 (by first | exact q162 | exact of_decide_eq_true (by first | (with_reducible assumption) | assumption) | (have e_ := (Kd.N_reads' HO_6.out).1; omega))
  obtain ⟨ua162_0, uc162_0, rfl, ul162_0, ge162_0⟩ := Kd.FK_slice_open hMe162
  have hv162_0 := hcc162 0 _ rfl
  rw [Nat.add_zero, show ((Kd.slice 28 k28)).sz = 1 from rfl, Nat.mul_one] at hv162_0
  replace hv162_0 := Option.some.inj (hv162_0.symm.trans hx162_0)
  injection hv162_0 with hva_ hvn_ hvc_
  rw [hva_] at ge162_0
  rw [hvc_] at ul162_0
  have HL162_0 := Aside0.mk (show Kd.V k28 28 _ w.heap.size _ _ (rd_L13 y154 x8_1) from Kd.V_mk ul162_0 ge162_0)
  clear hva_ hvn_ hvc_ ge162_0 ul162_0
  clear hcc162 hce162
  have HR162_0 := Aside0.mk hi162_0
  have HC162_0 := Aside0.mk hl162_0
  obtain ⟨e1_, e2_⟩ : A160_0 = A162_0 ∧ c160_0 = c162_0 := by (have h_ := hx160_0.symm.trans hx162_0; injection h_ with h_; injection h_ with h1_ _ h3_; exact ⟨h1_, h3_⟩)
  subst e1_
  subst e2_
  clear hi162_0 hl162_0
  replace p162 := eq_true p162
  replace q162 := eq_true q162
  have p164 : 0 ≤ (x8_1 : Int) := of_decide_eq_true (by first | (with_reducible assumption) | assumption)
  have q164 : x8_1 < (y157.length : Int) := of_decide_eq_true (by first | (with_reducible assumption) | assumption)
  obtain ⟨AZ164, cZ164, eZ164⟩ := Kd.R_slice HO_7.out; subst eZ164
  obtain ⟨ad164, e164, hx164_0⟩ := Kd.at_int (Kd.R_reads' HO_7.out).2.2 x8_1 p164 q164
  cases e164
  replace p164 := eq_true p164
  replace q164 := eq_true q164
  refine start_ (n := 21) (S := fun w' => w'.cell? ⟨gb105, 0, none⟩ = some (.slice Ao6 y102.length co6) ∧ w'.cell? ⟨gb105, 1, none⟩ = some (.int .i64 2) ∧ w'.cell? (ad160.add (x8_1).toNat) = some (.slice A160_0 (rd_L13 y154 x8_1).length c160_0) ∧ w'.cell? (ad160.add (x8_1).toNat) = some (.slice A160_0 (rd_L13 y154 x8_1).length c160_0) ∧ w'.cell? (ad164.add (x8_1).toNat) = some (.int .i64 (rd y157 x8_1))) (ds := []) #[false, false, false, false, false, false, false, false, false, false, false, false, false, false, false, false, false, false, false, false, false] (by kernel_rfl) rfl rfl ⟨(blk_cell BK105.out 0).trans rfl, (blk_cell BK105.out 1).trans rfl, hx160_0, hx162_0, hx164_0⟩ (fun hHeld => ?_); refine with_tabW rabbetlaw23_PredForms.tab12 rabbetlaw23_PredForms.bits12 (fun HT_ HW_ => ?_)
  generalize wr.drew = w99 at HO_5 HO_6 HO_7 HO_106000 BK105 BK106 BK107 BK108 HB HL160_0 HL162_0 HR160_0 HR162_0 hx160_0 hx162_0 hx164_0 hHeld ⊢
  refine pure_ (i := 1) (N := some 81) (v := ?_) (a' := ?_) #[false, true, false, false, false, false, false, false, false, false, false, false, false, false, false, false, false, false, false, false, false] rfl rfl (any_of HT_.out (by kernel_rfl)) (fun _ _ _ h => h) (Or.inl ⟨by rfl, ?_⟩) ?_ ?_
  rotate_left
  ·intro w'
   go_simp
   with_reducible rfl
  rotate_left
  ·simp only [Act.put, List.setIfInBounds_toArray, List.set_cons_zero, List.set_cons_succ, i64_w, i32_w]
   rfl
  refine pure_ (i := 2) (N := some 82) (v := ?_) (a' := ?_) #[false, true, true, false, false, false, false, false, false, false, false, false, false, false, false, false, false, false, false, false, false] rfl rfl (any_of HT_.out (by kernel_rfl)) (fun _ _ _ h => h) (Or.inl ⟨by rfl, ?_⟩) ?_ ?_
  rotate_left
  ·intro w'
   go_simp
   with_reducible rfl
  rotate_left
  ·simp only [Act.put, List.setIfInBounds_toArray, List.set_cons_zero, List.set_cons_succ, i64_w, i32_w]
   rfl
  refine pure_ (i := 3) (N := some 83) (v := ?_) (a' := ?_) #[false, true, true, true, false, false, false, false, false, false, false, false, false, false, false, false, false, false, false, false, false] rfl rfl (any_of HT_.out (by kernel_rfl)) (fun _ _ _ h => h) (Or.inl ⟨by rfl, ?_⟩) ?_ ?_
  rotate_left
  ·intro w'
   go_simp
   with_reducible rfl
  rotate_left
  ·simp only [Act.put, List.setIfInBounds_toArray, List.set_cons_zero, List.set_cons_succ, i64_w, i32_w]
   rfl
  refine take_ (i := 0) (N := some 80) (v := ?_) (a' := ?_) #[true, true, true, true, false, false, false, false, false, false, false, false, false, false, false, false, false, false, false, false, false] rfl rfl (take_ofW HT_.out HW_.out (by kernel_rfl)) (fun _ _ _ h => h) (Or.inl ⟨by rfl, ?_⟩) hHeld ?_ ?_
  rotate_left
  ·rintro w' ⟨s0, s1, s2, s3, s4⟩
   go_simp
   with_reducible rfl
  rotate_left
  ·simp only [Act.put, List.setIfInBounds_toArray, List.set_cons_zero, List.set_cons_succ, i64_w, i32_w]
   rfl
  refine take_ (i := 4) (N := some 84) (v := ?_) (a' := ?_) #[true, true, true, true, true, false, false, false, false, false, false, false, false, false, false, false, false, false, false, false, false] rfl rfl (take_ofW HT_.out HW_.out (by kernel_rfl)) (fun _ _ _ h => h) (Or.inl ⟨by rfl, ?_⟩) hHeld ?_ ?_
  rotate_left
  ·rintro w' ⟨s0, s1, s2, s3, s4⟩
   go_simp
   with_reducible rfl
  rotate_left
  ·simp only [Act.put, List.setIfInBounds_toArray, List.set_cons_zero, List.set_cons_succ, i64_w, i32_w]
   rfl
  refine one_ (i := 5) (N := some 85) #[true, true, true, true, true, true, false, false, false, false, false, false, false, false, false, false, false, false, false, false, false] rfl rfl (one_of HT_.out (by kernel_rfl)) (by decide) (fun K hK => ?_)
  refine goes_ Try.func13 (by kernel_rfl) rfl #[.agg #[.slice Ao6 y102.length co6, .int .i64 2], .slice A160_0 (rd_L13 y154 x8_1).length c160_0] (by rfl) rfl rfl (by (try simp only [List.map_toArray, List.map_cons, List.map_nil]); first | done | rfl | (simp only [List.length_drop, List.length_take]; rfl)) ?_
  with_reducible refine (pred_Check.calls _ _ y102 2 _ _ (rd_L13 y154 x8_1) t161 _ ?side1 ?side2 ?side3 ?side4 A87.out).mono ?_
  (case side1 => repeat (first | exact (Kd.R_reads' HO_106000.out).2.2 | (with_reducible refine Kd.C_alloc ?_ _) | (with_reducible refine Kd.C_drewN ?_ _) | (with_reducible refine Kd.C_drew ?_)))
  (case side2 => exact (Kd.R_reads' HO_106000.out).2.1)
  (case side3 => repeat (first | exact (by repeat (first | (with_reducible exact HR160_0.out) | (with_reducible refine Kd.C_alloc ?_ _) | (with_reducible refine Kd.C_drewN ?_ _) | (with_reducible refine Kd.C_drew ?_) | exact HR160_0.out)) | (with_reducible refine Kd.C_alloc ?_ _) | (with_reducible refine Kd.C_drewN ?_ _) | (with_reducible refine Kd.C_drew ?_)))
  (case side4 => exact HC160_0.out)
  rintro e w100 ⟨rfl, hb⟩
  have HS2_ := (hb.cell (World.block_lt_of_cell? _ _ (hHeld.2.2.1))).trans (hHeld.2.2.1)
  have HS3_ := (hb.cell (World.block_lt_of_cell? _ _ (hHeld.2.2.2.1))).trans (hHeld.2.2.2.1)
  have HS4_ := (hb.cell (World.block_lt_of_cell? _ _ (hHeld.2.2.2.2))).trans (hHeld.2.2.2.2)
  refine ⟨_, rfl, ?_⟩
  replace HL162_0 := Aside0.mk (Kd.V_below (by (with_reducible repeat (first | apply Kd.V_alloc | apply Kd.V_drewN | apply Kd.V_drew)); exact HL162_0.out) hb)
  replace HR162_0 := Aside0.mk (Kd.C_below (by repeat (first | (with_reducible exact HR162_0.out) | (with_reducible refine Kd.C_alloc ?_ _) | (with_reducible refine Kd.C_drewN ?_ _) | (with_reducible refine Kd.C_drew ?_) | exact HR162_0.out)) hb)
  have n0_ := qR HO_5 hb
  have n1_ := Aside0.mk (Kd.N_below (by (with_reducible repeat (first | apply Kd.N_alloc | apply Kd.N_drewN | apply Kd.N_drew)); exact HO_6.out) hb)
  have n2_ := qR HO_7 hb
  have n3_ := qR HO_106000 hb
  have n4_ := Aside0.mk (Kd.V_below (by (with_reducible repeat (first | apply Kd.V_alloc | apply Kd.V_drewN | apply Kd.V_drew)); exact HL160_0.out) hb)
  have n5_ := qB BK105 hb
  have n6_ := qB BK106 hb
  have n7_ := qB BK107 hb
  have n8_ := qB BK108 hb
  have n9_ := Aside0.mk (Kd.C_below (by repeat (first | (with_reducible exact HR160_0.out) | (with_reducible refine Kd.C_alloc ?_ _) | (with_reducible refine Kd.C_drewN ?_ _) | (with_reducible refine Kd.C_drew ?_) | exact HR160_0.out)) hb)
  have n10_ := qS HB hb
  clear HO_5
  clear HO_6
  clear HO_7
  clear HO_106000
  clear HL160_0
  clear BK105
  clear BK106
  clear BK107
  clear BK108
  clear HR160_0
  clear HB
  have HO_5 := n0_
  have HO_6 := n1_
  have HO_7 := n2_
  have HO_106000 := n3_
  have HL160_0 := n4_
  have BK105 := n5_
  have BK106 := n6_
  have BK107 := n7_
  have BK108 := n8_
  have HR160_0 := n9_
  have HB := n10_
  clear n0_ n1_ n2_ n3_ n4_ n5_ n6_ n7_ n8_ n9_ n10_
  (try clear hb)
  (try clear hb2)
  (try clear hk)
  (try clear hi)
  obtain ⟨Ao101, co101, eo101⟩ := Kd.R_slice HO_5.out
  (first | subst eo101 | (injection eo101 with f1_ f2_ f3_; have f4_ := f1_.symm; have f5_ := f3_.symm; clear f1_ f2_ f3_; subst f4_; subst f5_))
  refine hK.out _ _ ⟨(blk_cell BK105.out 0).trans rfl, (blk_cell BK105.out 1).trans rfl, HS2_, HS3_, HS4_⟩ (fun hHeld => ?_)
  clear hK K
  refine norm_ (a' := ?_) ?_ ?_
  rotate_left
  ·show Act.put _ (some 85) _ = _
   simp only [Act.put, List.setIfInBounds_toArray, List.set_cons_zero, List.set_cons_succ, i64_w, i32_w]
   rfl
  refine pure_ (i := 6) (N := some 86) (v := ?_) (a' := ?_) #[true, true, true, true, true, true, true, false, false, false, false, false, false, false, false, false, false, false, false, false, false] rfl rfl (any_of HT_.out (by kernel_rfl)) (fun _ _ _ h => h) (Or.inl ⟨by rfl, ?_⟩) ?_ ?_
  rotate_left
  ·intro w'
   go_simp
   with_reducible rfl
  rotate_left
  ·simp only [Act.put, List.setIfInBounds_toArray, List.set_cons_zero, List.set_cons_succ, i64_w, i32_w]
   rfl
  refine pure_ (i := 7) (N := some 87) (v := ?_) (a' := ?_) #[true, true, true, true, true, true, true, true, false, false, false, false, false, false, false, false, false, false, false, false, false] rfl rfl (any_of HT_.out (by kernel_rfl)) (fun _ _ _ h => h) (Or.inl ⟨by rfl, ?_⟩) ?_ ?_
  rotate_left
  ·intro w'
   go_simp
   with_reducible rfl
  rotate_left
  ·simp only [Act.put, List.setIfInBounds_toArray, List.set_cons_zero, List.set_cons_succ, i64_w, i32_w]
   rfl
  refine pure_ (i := 9) (N := some 89) (v := ?_) (a' := ?_) #[true, true, true, true, true, true, true, true, false, true, false, false, false, false, false, false, false, false, false, false, false] rfl rfl (any_of HT_.out (by kernel_rfl)) (fun _ _ _ h => h) (Or.inl ⟨by rfl, ?_⟩) ?_ ?_
  rotate_left
  ·intro w'
   go_simp
   with_reducible rfl
  rotate_left
  ·simp only [Act.put, List.setIfInBounds_toArray, List.set_cons_zero, List.set_cons_succ, i64_w, i32_w]
   rfl
  refine pure_ (i := 10) (N := some 90) (v := ?_) (a' := ?_) #[true, true, true, true, true, true, true, true, false, true, true, false, false, false, false, false, false, false, false, false, false] rfl rfl (any_of HT_.out (by kernel_rfl)) (fun _ _ _ h => h) (Or.inl ⟨by rfl, ?_⟩) ?_ ?_
  rotate_left
  ·intro w'
   go_simp
   with_reducible rfl
  rotate_left
  ·simp only [Act.put, List.setIfInBounds_toArray, List.set_cons_zero, List.set_cons_succ, i64_w, i32_w]
   rfl
  refine pure_ (i := 11) (N := some 91) (v := ?_) (a' := ?_) #[true, true, true, true, true, true, true, true, false, true, true, true, false, false, false, false, false, false, false, false, false] rfl rfl (any_of HT_.out (by kernel_rfl)) (fun _ _ _ h => h) (Or.inl ⟨by rfl, ?_⟩) ?_ ?_
  rotate_left
  ·intro w'
   go_simp
   with_reducible rfl
  rotate_left
  ·simp only [Act.put, List.setIfInBounds_toArray, List.set_cons_zero, List.set_cons_succ, i64_w, i32_w]
   rfl
  refine pure_ (i := 13) (N := some 93) (v := ?_) (a' := ?_) #[true, true, true, true, true, true, true, true, false, true, true, true, false, true, false, false, false, false, false, false, false] rfl rfl (any_of HT_.out (by kernel_rfl)) (fun _ _ _ h => h) (Or.inl ⟨by rfl, ?_⟩) ?_ ?_
  rotate_left
  ·intro w'
   go_simp
   with_reducible rfl
  rotate_left
  ·simp only [Act.put, List.setIfInBounds_toArray, List.set_cons_zero, List.set_cons_succ, i64_w, i32_w]
   rfl
  refine pure_ (i := 15) (N := some 95) (v := ?_) (a' := ?_) #[true, true, true, true, true, true, true, true, false, true, true, true, false, true, false, true, false, false, false, false, false] rfl rfl (any_of HT_.out (by kernel_rfl)) (fun _ _ _ h => h) (Or.inl ⟨by rfl, ?_⟩) ?_ ?_
  rotate_left
  ·intro w'
   go_simp
   with_reducible rfl
  rotate_left
  ·simp only [Act.put, List.setIfInBounds_toArray, List.set_cons_zero, List.set_cons_succ, i64_w, i32_w]
   rfl
  refine pure_ (i := 16) (N := some 96) (v := ?_) (a' := ?_) #[true, true, true, true, true, true, true, true, false, true, true, true, false, true, false, true, true, false, false, false, false] rfl rfl (any_of HT_.out (by kernel_rfl)) (fun _ _ _ h => h) (Or.inl ⟨by rfl, ?_⟩) ?_ ?_
  rotate_left
  ·intro w'
   go_simp
   with_reducible rfl
  rotate_left
  ·simp only [Act.put, List.setIfInBounds_toArray, List.set_cons_zero, List.set_cons_succ, i64_w, i32_w]
   rfl
  refine pure_ (i := 17) (N := some 97) (v := ?_) (a' := ?_) #[true, true, true, true, true, true, true, true, false, true, true, true, false, true, false, true, true, true, false, false, false] rfl rfl (any_of HT_.out (by kernel_rfl)) (fun _ _ _ h => h) (Or.inl ⟨by rfl, ?_⟩) ?_ ?_
  rotate_left
  ·intro w'
   go_simp
   with_reducible rfl
  rotate_left
  ·simp only [Act.put, List.setIfInBounds_toArray, List.set_cons_zero, List.set_cons_succ, i64_w, i32_w]
   rfl
  refine take_ (i := 8) (N := some 88) (v := ?_) (a' := ?_) #[true, true, true, true, true, true, true, true, true, true, true, true, false, true, false, true, true, true, false, false, false] rfl rfl (take_ofW HT_.out HW_.out (by kernel_rfl)) (fun _ _ _ h => h) (Or.inl ⟨by rfl, ?_⟩) hHeld ?_ ?_
  rotate_left
  ·rintro w' ⟨s0, s1, s2, s3, s4⟩
   go_simp
   with_reducible rfl
  rotate_left
  ·simp only [Act.put, List.setIfInBounds_toArray, List.set_cons_zero, List.set_cons_succ, i64_w, i32_w]
   rfl
  refine take_ (i := 12) (N := some 92) (v := ?_) (a' := ?_) #[true, true, true, true, true, true, true, true, true, true, true, true, true, true, false, true, true, true, false, false, false] rfl rfl (take_ofW HT_.out HW_.out (by kernel_rfl)) (fun _ _ _ h => h) (Or.inl ⟨by rfl, ?_⟩) hHeld ?_ ?_
  rotate_left
  ·rintro w' ⟨s0, s1, s2, s3, s4⟩
   go_simp
   with_reducible rfl
  rotate_left
  ·simp only [Act.put, List.setIfInBounds_toArray, List.set_cons_zero, List.set_cons_succ, i64_w, i32_w]
   rfl
  refine take_ (i := 18) (N := some 98) (v := ?_) (a' := ?_) #[true, true, true, true, true, true, true, true, true, true, true, true, true, true, false, true, true, true, true, false, false] rfl rfl (take_ofW HT_.out HW_.out (by kernel_rfl)) (fun _ _ _ h => h) (Or.inl ⟨by rfl, ?_⟩) hHeld ?_ ?_
  rotate_left
  ·rintro w' ⟨s0, s1, s2, s3, s4⟩
   go_simp
   with_reducible rfl
  rotate_left
  ·simp only [Act.put, List.setIfInBounds_toArray, List.set_cons_zero, List.set_cons_succ, i64_w, i32_w]
   rfl
  refine one_ (i := 14) (N := some 94) #[true, true, true, true, true, true, true, true, true, true, true, true, true, true, true, true, true, true, true, false, false] rfl rfl (one_of HT_.out (by kernel_rfl)) (by decide) (fun K hK => ?_)
  refine goes_ Try.func17 (by kernel_rfl) rfl #[.agg #[.slice Ao6 y102.length co6, .int .i64 2], .slice A160_0 (rd_L13 y154 x8_1).length c160_0, .slice Ao101 y109.length co101] (by rfl) rfl rfl (by (try simp only [List.map_toArray, List.map_cons, List.map_nil]); first | done | rfl | (simp only [List.length_drop, List.length_take]; rfl)) ?_
  with_reducible refine (pred_Row.calls k1 _ _ y102 2 _ _ (rd_L13 y154 x8_1) _ _ y109 t163 _ ?side1 ?side2 ?side3 ?side4 ?side5 ?side6 A89.out).mono ?_
  (case side1 => repeat (first | exact (Kd.R_reads' HO_106000.out).2.2 | (with_reducible refine Kd.C_alloc ?_ _) | (with_reducible refine Kd.C_drewN ?_ _) | (with_reducible refine Kd.C_drew ?_)))
  (case side2 => exact (Kd.R_reads' HO_106000.out).2.1)
  (case side3 => repeat (first | exact (by repeat (first | (with_reducible exact HR162_0.out) | (with_reducible refine Kd.C_alloc ?_ _) | (with_reducible refine Kd.C_drewN ?_ _) | (with_reducible refine Kd.C_drew ?_) | exact HR162_0.out)) | (with_reducible refine Kd.C_alloc ?_ _) | (with_reducible refine Kd.C_drewN ?_ _) | (with_reducible refine Kd.C_drew ?_)))
  (case side4 => exact HC162_0.out)
  (case side5 => repeat (first | exact (Kd.R_reads' HO_5.out).2.2 | (with_reducible refine Kd.C_alloc ?_ _) | (with_reducible refine Kd.C_drewN ?_ _) | (with_reducible refine Kd.C_drew ?_)))
  (case side6 => exact (Kd.R_reads' HO_5.out).2.1)
  rintro e w102 ⟨rfl, hb⟩
  have HS2_ := (hb.cell (World.block_lt_of_cell? _ _ (hHeld.2.2.1))).trans (hHeld.2.2.1)
  have HS3_ := (hb.cell (World.block_lt_of_cell? _ _ (hHeld.2.2.2.1))).trans (hHeld.2.2.2.1)
  have HS4_ := (hb.cell (World.block_lt_of_cell? _ _ (hHeld.2.2.2.2))).trans (hHeld.2.2.2.2)
  refine ⟨_, rfl, ?_⟩
  have n0_ := qR HO_5 hb
  have n1_ := Aside0.mk (Kd.N_below (by (with_reducible repeat (first | apply Kd.N_alloc | apply Kd.N_drewN | apply Kd.N_drew)); exact HO_6.out) hb)
  have n2_ := qR HO_7 hb
  have n3_ := qR HO_106000 hb
  have n4_ := Aside0.mk (Kd.V_below (by (with_reducible repeat (first | apply Kd.V_alloc | apply Kd.V_drewN | apply Kd.V_drew)); exact HL160_0.out) hb)
  have n5_ := Aside0.mk (Kd.V_below (by (with_reducible repeat (first | apply Kd.V_alloc | apply Kd.V_drewN | apply Kd.V_drew)); exact HL162_0.out) hb)
  have n6_ := qB BK105 hb
  have n7_ := qB BK106 hb
  have n8_ := qB BK107 hb
  have n9_ := qB BK108 hb
  have n10_ := Aside0.mk (Kd.C_below (by repeat (first | (with_reducible exact HR160_0.out) | (with_reducible refine Kd.C_alloc ?_ _) | (with_reducible refine Kd.C_drewN ?_ _) | (with_reducible refine Kd.C_drew ?_) | exact HR160_0.out)) hb)
  have n11_ := Aside0.mk (Kd.C_below (by repeat (first | (with_reducible exact HR162_0.out) | (with_reducible refine Kd.C_alloc ?_ _) | (with_reducible refine Kd.C_drewN ?_ _) | (with_reducible refine Kd.C_drew ?_) | exact HR162_0.out)) hb)
  have n12_ := qS HB hb
  clear HO_5
  clear HO_6
  clear HO_7
  clear HO_106000
  clear HL160_0
  clear HL162_0
  clear BK105
  clear BK106
  clear BK107
  clear BK108
  clear HR160_0
  clear HR162_0
  clear HB
  have HO_5 := n0_
  have HO_6 := n1_
  have HO_7 := n2_
  have HO_106000 := n3_
  have HL160_0 := n4_
  have HL162_0 := n5_
  have BK105 := n6_
  have BK106 := n7_
  have BK107 := n8_
  have BK108 := n9_
  have HR160_0 := n10_
  have HR162_0 := n11_
  have HB := n12_
  clear n0_ n1_ n2_ n3_ n4_ n5_ n6_ n7_ n8_ n9_ n10_ n11_ n12_
  (try clear hb)
  (try clear hb2)
  (try clear hk)
  (try clear hi)
  obtain ⟨Ao103, co103, eo103⟩ := Kd.R_slice HO_7.out
  (first | subst eo103 | (injection eo103 with f1_ f2_ f3_; have f4_ := f1_.symm; have f5_ := f3_.symm; clear f1_ f2_ f3_; subst f4_; subst f5_))
  refine hK.out _ _ ⟨(blk_cell BK105.out 0).trans rfl, (blk_cell BK105.out 1).trans rfl, HS2_, HS3_, HS4_⟩ (fun hHeld => ?_)
  clear hK K
  refine norm_ (a' := ?_) ?_ ?_
  rotate_left
  ·show Act.put _ (some 94) _ = _
   simp only [Act.put, List.setIfInBounds_toArray, List.set_cons_zero, List.set_cons_succ, i64_w, i32_w]
   rfl
  refine pure_ (i := 19) (N := some 99) (v := ?_) (a' := ?_) #[true, true, true, true, true, true, true, true, true, true, true, true, true, true, true, true, true, true, true, true, false] rfl rfl (any_of HT_.out (by kernel_rfl)) (fun _ _ _ h => h) (Or.inl ⟨by rfl, ?_⟩) ?_ ?_
  rotate_left
  ·intro w'
   go_simp
   with_reducible rfl
  rotate_left
  ·simp only [Act.put, List.setIfInBounds_toArray, List.set_cons_zero, List.set_cons_succ, i64_w, i32_w]
   rfl
  refine pure_ (i := 20) (N := some 100) (v := ?_) (a' := ?_) #[true, true, true, true, true, true, true, true, true, true, true, true, true, true, true, true, true, true, true, true, true] rfl rfl (any_of HT_.out (by kernel_rfl)) (fun _ _ _ h => h) (Or.inl ⟨by rfl, ?_⟩) ?_ ?_
  rotate_left
  ·intro w'
   go_simp
   with_reducible rfl
  rotate_left
  ·simp only [Act.put, List.setIfInBounds_toArray, List.set_cons_zero, List.set_cons_succ, i64_w, i32_w]
   rfl
  refine done_ (done_of HT_.out (by kernel_rfl)) ?_
  try go_wp2
  go_ret
  exact ⟨by first | rfl | (simp [errW_none, errW_some] <;> rfl) | (simp [*, errW_none, errW_some] <;> rfl), by repeat (first | (with_reducible first | exact HB.out | apply below_alloc | apply pw_below_drewN | apply below_drew1 | refine below_set ?_ GE105.out | refine below_set ?_ GE106.out | refine below_set ?_ GE107.out | refine below_set ?_ GE108.out) | exact HB.out)⟩
end Go.Proofs.Ytiicfblccklfhaa.PPG2
end
section
namespace Go.Proofs.Ytiicfblccklfhaa.PPG2
open Go.RowKit Go.Proofs.YtiicfblccklfhaaW.PrintWords Go.Proofs.YtiicfblccklfhaaW.PrintLast Go.Proofs.YtiicfblccklfhaaW.PrintMore
attribute [local go_sem] max2_int min2_int max_two min_two max_three min_three max_four min_four
open Go.Proofs.Ytiicfblccklfhaa.Ext Go.Proofs.Ytiicfblccklfhaa.PK Go.Proofs.Ytiicfblccklfhaa.PPF
set_option linter.unusedVariables false
set_option linter.unusedSimpArgs false
set_option maxHeartbeats 80000000 in
set_option maxRecDepth 100000 in
theorem rabbetlaw23_PredForms.calls_r2 : rabbetlaw23_PredForms.calls_c.2.2.1 := by
  intro k r w hu64 hu33 hu26 hu28 A1 y102 Ny102 y109 Ny109 y112 Ny112 y115 Ny115 y118 Ny118 y121 Ny121 y124 Ny124 y127 Ny127 y130 Ny130 y133 Ny133 y136 Ny136 y139 Ny139 y142 Ny142 y145 Ny145 y148 Ny148 y151 Ny151 y154 Ny154 y157 Ny157 xi0_ w3 w4 Ao6 co6 gb105 w7 GW105 GE105 gb106 w9 GW106 GE106 NB105_106 NB106_105 gb107 w10 GW107 GE107 NB105_107 NB107_105 NB106_107 NB107_106 hnb11 hnc11 hnb12 hnc12 hnb14 hnc14 gb108 w16 GW108 GE108 NB105_108 NB108_105 NB106_108 NB108_106 NB107_108 NB108_107 hnb17 hnc17 hnb18 hnc18 hnb19 hnc19 v110 w22 w25 w28 w31 w34 w36 w38 w40 w43 w45 w49 w53 w57 w62 w65 Ao67 co67 Ao68 co68 Ao69 co69 Ao70 co70 Ao71 co71 Ao72 co72 Ao73 co73 Ao74 co74 Ao75 co75 Ao76 co76 Ao77 co77 Ao78 co78 Ao79 co79 Ao80 co80 v155 w81 v158 w83 HO104 HO111 HO156 HO159 xi1_ xi2_ xi3_ xi4_ xi5_ xi6_ xi7_ wr u0 u74 u75 u76 u77 u78 u79 u80 u81 u82 u83 u84 u85 u86 u87 u88 u89 u90 u91 u92 u93 u94 u95 u96 u97 u98 u99 u100 xi8_ xi9_ xi10_ x8_1 HO_5 HO_6 HO_7 HO_106000 BK105 BK106 BK107 BK108 HB k1 xi11_ HK1 c85b0 c86b0 t161 H A87 c88
  have c88b0 : (t161 == 0) = false := beq_eq_false_iff_ne.mpr c88
  have c88b1 : (t161 != 0) = true := bne_iff_ne.mpr c88
  obtain rfl := Option.some.inj H
  obtain ⟨Ao104, co104, eo104⟩ := Kd.N_slice HO_6.out
  subst eo104
  try go_wp2
  have n0_ := Aside0.mk (Kd.R_drew HO_5.out)
  have n1_ := Aside0.mk (Kd.N_drew HO_6.out)
  have n2_ := Aside0.mk (Kd.R_drew HO_7.out)
  have n3_ := Aside0.mk (Kd.R_drew HO_106000.out)
  have n4_ := Aside0.mk (blk_drew BK105.out)
  have n5_ := Aside0.mk (blk_drew BK106.out)
  have n6_ := Aside0.mk (blk_drew BK107.out)
  have n7_ := Aside0.mk (blk_drew BK108.out)
  have n8_ := Aside0.mk (below_drew1 HB.out)
  clear HO_5
  clear HO_6
  clear HO_7
  clear HO_106000
  clear BK105
  clear BK106
  clear BK107
  clear BK108
  clear HB
  have HO_5 := n0_
  have HO_6 := n1_
  have HO_7 := n2_
  have HO_106000 := n3_
  have BK105 := n4_
  have BK106 := n5_
  have BK107 := n6_
  have BK108 := n7_
  have HB := n8_
  clear n0_ n1_ n2_ n3_ n4_ n5_ n6_ n7_ n8_
  have p160 : 0 ≤ (x8_1 : Int) := of_decide_eq_true (by first | (with_reducible assumption) | assumption)
  have q160 : x8_1 < (y154.length : Int) := of_decide_eq_true (by first | (with_reducible assumption) | assumption)
  obtain ⟨ad160, A160_0, c160_0, e160, hx160_0, hl160_0, hi160_0⟩ := at_L13 (Kd.N_reads' HO_6.out).2.2 x8_1 p160 q160
  cases e160
  obtain ⟨ce160, hce160, hMe160, hcc160⟩ := Kd.N_get HO_6.out [] x8_1 p160 (by first | exact q160 | exact of_decide_eq_true (by first | (with_reducible assumption) | assumption) | (have e_ := (Kd.N_reads' HO_6.out).1; omega))
  obtain ⟨ua160_0, uc160_0, rfl, ul160_0, ge160_0⟩ := Kd.FK_slice_open hMe160
  have hv160_0 := hcc160 0 _ rfl
  rw [Nat.add_zero, show ((Kd.slice 28 k28)).sz = 1 from rfl, Nat.mul_one] at hv160_0
  replace hv160_0 := Option.some.inj (hv160_0.symm.trans hx160_0)
  injection hv160_0 with hva_ hvn_ hvc_
  rw [hva_] at ge160_0
  rw [hvc_] at ul160_0
  have HL160_0 := Aside0.mk (show Kd.V k28 28 _ w.heap.size _ _ (rd_L13 y154 x8_1) from Kd.V_mk ul160_0 ge160_0)
  clear hva_ hvn_ hvc_ ge160_0 ul160_0
  clear hcc160 hce160
  have HR160_0 := Aside0.mk hi160_0
  have HC160_0 := Aside0.mk hl160_0
  clear hi160_0 hl160_0
  replace p160 := eq_true p160
  replace q160 := eq_true q160
  refine start_ (n := 21) (S := fun w' => w'.cell? ⟨gb105, 0, none⟩ = some (.slice Ao6 y102.length co6) ∧ w'.cell? ⟨gb105, 1, none⟩ = some (.int .i64 2) ∧ w'.cell? (ad160.add (x8_1).toNat) = some (.slice A160_0 (rd_L13 y154 x8_1).length c160_0)) (ds := []) #[false, false, false, false, false, false, false, false, false, false, false, false, false, false, false, false, false, false, false, false, false] (by kernel_rfl) rfl rfl ⟨(blk_cell BK105.out 0).trans rfl, (blk_cell BK105.out 1).trans rfl, hx160_0⟩ (fun hHeld => ?_); refine with_tabW rabbetlaw23_PredForms.tab12 rabbetlaw23_PredForms.bits12 (fun HT_ HW_ => ?_)
  generalize wr.drew = w105 at HO_5 HO_6 HO_7 HO_106000 BK105 BK106 BK107 BK108 HB HL160_0 HR160_0 hx160_0 hHeld ⊢
  refine pure_ (i := 1) (N := some 81) (v := ?_) (a' := ?_) #[false, true, false, false, false, false, false, false, false, false, false, false, false, false, false, false, false, false, false, false, false] rfl rfl (any_of HT_.out (by kernel_rfl)) (fun _ _ _ h => h) (Or.inl ⟨by rfl, ?_⟩) ?_ ?_
  rotate_left
  ·intro w'
   go_simp
   with_reducible rfl
  rotate_left
  ·simp only [Act.put, List.setIfInBounds_toArray, List.set_cons_zero, List.set_cons_succ, i64_w, i32_w]
   rfl
  refine pure_ (i := 2) (N := some 82) (v := ?_) (a' := ?_) #[false, true, true, false, false, false, false, false, false, false, false, false, false, false, false, false, false, false, false, false, false] rfl rfl (any_of HT_.out (by kernel_rfl)) (fun _ _ _ h => h) (Or.inl ⟨by rfl, ?_⟩) ?_ ?_
  rotate_left
  ·intro w'
   go_simp
   with_reducible rfl
  rotate_left
  ·simp only [Act.put, List.setIfInBounds_toArray, List.set_cons_zero, List.set_cons_succ, i64_w, i32_w]
   rfl
  refine pure_ (i := 3) (N := some 83) (v := ?_) (a' := ?_) #[false, true, true, true, false, false, false, false, false, false, false, false, false, false, false, false, false, false, false, false, false] rfl rfl (any_of HT_.out (by kernel_rfl)) (fun _ _ _ h => h) (Or.inl ⟨by rfl, ?_⟩) ?_ ?_
  rotate_left
  ·intro w'
   go_simp
   with_reducible rfl
  rotate_left
  ·simp only [Act.put, List.setIfInBounds_toArray, List.set_cons_zero, List.set_cons_succ, i64_w, i32_w]
   rfl
  refine take_ (i := 0) (N := some 80) (v := ?_) (a' := ?_) #[true, true, true, true, false, false, false, false, false, false, false, false, false, false, false, false, false, false, false, false, false] rfl rfl (take_ofW HT_.out HW_.out (by kernel_rfl)) (fun _ _ _ h => h) (Or.inl ⟨by rfl, ?_⟩) hHeld ?_ ?_
  rotate_left
  ·rintro w' ⟨s0, s1, s2⟩
   go_simp
   with_reducible rfl
  rotate_left
  ·simp only [Act.put, List.setIfInBounds_toArray, List.set_cons_zero, List.set_cons_succ, i64_w, i32_w]
   rfl
  refine take_ (i := 4) (N := some 84) (v := ?_) (a' := ?_) #[true, true, true, true, true, false, false, false, false, false, false, false, false, false, false, false, false, false, false, false, false] rfl rfl (take_ofW HT_.out HW_.out (by kernel_rfl)) (fun _ _ _ h => h) (Or.inl ⟨by rfl, ?_⟩) hHeld ?_ ?_
  rotate_left
  ·rintro w' ⟨s0, s1, s2⟩
   go_simp
   with_reducible rfl
  rotate_left
  ·simp only [Act.put, List.setIfInBounds_toArray, List.set_cons_zero, List.set_cons_succ, i64_w, i32_w]
   rfl
  refine one_ (i := 5) (N := some 85) #[true, true, true, true, true, true, false, false, false, false, false, false, false, false, false, false, false, false, false, false, false] rfl rfl (one_of HT_.out (by kernel_rfl)) (by decide) (fun K hK => ?_)
  refine goes_ Try.func13 (by kernel_rfl) rfl #[.agg #[.slice Ao6 y102.length co6, .int .i64 2], .slice A160_0 (rd_L13 y154 x8_1).length c160_0] (by rfl) rfl rfl (by (try simp only [List.map_toArray, List.map_cons, List.map_nil]); first | done | rfl | (simp only [List.length_drop, List.length_take]; rfl)) ?_
  with_reducible refine (pred_Check.calls _ _ y102 2 _ _ (rd_L13 y154 x8_1) t161 _ ?side1 ?side2 ?side3 ?side4 A87.out).mono ?_
  (case side1 => repeat (first | exact (Kd.R_reads' HO_106000.out).2.2 | (with_reducible refine Kd.C_alloc ?_ _) | (with_reducible refine Kd.C_drewN ?_ _) | (with_reducible refine Kd.C_drew ?_)))
  (case side2 => exact (Kd.R_reads' HO_106000.out).2.1)
  (case side3 => repeat (first | exact (by repeat (first | (with_reducible exact HR160_0.out) | (with_reducible refine Kd.C_alloc ?_ _) | (with_reducible refine Kd.C_drewN ?_ _) | (with_reducible refine Kd.C_drew ?_) | exact HR160_0.out)) | (with_reducible refine Kd.C_alloc ?_ _) | (with_reducible refine Kd.C_drewN ?_ _) | (with_reducible refine Kd.C_drew ?_)))
  (case side4 => exact HC160_0.out)
  rintro e w106 ⟨rfl, hb⟩
  have HS2_ := (hb.cell (World.block_lt_of_cell? _ _ (hHeld.2.2))).trans (hHeld.2.2)
  refine ⟨_, rfl, ?_⟩
  have n0_ := qR HO_5 hb
  have n1_ := Aside0.mk (Kd.N_below (by (with_reducible repeat (first | apply Kd.N_alloc | apply Kd.N_drewN | apply Kd.N_drew)); exact HO_6.out) hb)
  have n2_ := qR HO_7 hb
  have n3_ := qR HO_106000 hb
  have n4_ := Aside0.mk (Kd.V_below (by (with_reducible repeat (first | apply Kd.V_alloc | apply Kd.V_drewN | apply Kd.V_drew)); exact HL160_0.out) hb)
  have n5_ := qB BK105 hb
  have n6_ := qB BK106 hb
  have n7_ := qB BK107 hb
  have n8_ := qB BK108 hb
  have n9_ := Aside0.mk (Kd.C_below (by repeat (first | (with_reducible exact HR160_0.out) | (with_reducible refine Kd.C_alloc ?_ _) | (with_reducible refine Kd.C_drewN ?_ _) | (with_reducible refine Kd.C_drew ?_) | exact HR160_0.out)) hb)
  have n10_ := qS HB hb
  clear HO_5
  clear HO_6
  clear HO_7
  clear HO_106000
  clear HL160_0
  clear BK105
  clear BK106
  clear BK107
  clear BK108
  clear HR160_0
  clear HB
  have HO_5 := n0_
  have HO_6 := n1_
  have HO_7 := n2_
  have HO_106000 := n3_
  have HL160_0 := n4_
  have BK105 := n5_
  have BK106 := n6_
  have BK107 := n7_
  have BK108 := n8_
  have HR160_0 := n9_
  have HB := n10_
  clear n0_ n1_ n2_ n3_ n4_ n5_ n6_ n7_ n8_ n9_ n10_
  (try clear hb)
  (try clear hb2)
  (try clear hk)
  (try clear hi)
  refine hK.out _ _ ⟨(blk_cell BK105.out 0).trans rfl, (blk_cell BK105.out 1).trans rfl, HS2_⟩ (fun hHeld => ?_)
  clear hK K
  refine norm_ (a' := ?_) ?_ ?_
  rotate_left
  ·show Act.put _ (some 85) _ = _
   simp only [Act.put, List.setIfInBounds_toArray, List.set_cons_zero, List.set_cons_succ, i64_w, i32_w]
   rfl
  refine pure_ (i := 6) (N := some 86) (v := ?_) (a' := ?_) #[true, true, true, true, true, true, true, false, false, false, false, false, false, false, false, false, false, false, false, false, false] rfl rfl (any_of HT_.out (by kernel_rfl)) (fun _ _ _ h => h) (Or.inl ⟨by rfl, ?_⟩) ?_ ?_
  rotate_left
  ·intro w'
   go_simp
   with_reducible rfl
  rotate_left
  ·simp only [Act.put, List.setIfInBounds_toArray, List.set_cons_zero, List.set_cons_succ, i64_w, i32_w]
   rfl
  refine pure_ (i := 7) (N := some 87) (v := ?_) (a' := ?_) #[true, true, true, true, true, true, true, true, false, false, false, false, false, false, false, false, false, false, false, false, false] rfl rfl (any_of HT_.out (by kernel_rfl)) (fun _ _ _ h => h) (Or.inl ⟨by rfl, ?_⟩) ?_ ?_
  rotate_left
  ·intro w'
   go_simp
   with_reducible rfl
  rotate_left
  ·simp only [Act.put, List.setIfInBounds_toArray, List.set_cons_zero, List.set_cons_succ, i64_w, i32_w]
   rfl
  refine pure_ (i := 8) (N := some 88) (v := undef) (a' := ?_) #[true, true, true, true, true, true, true, true, true, false, false, false, false, false, false, false, false, false, false, false, false] rfl rfl (any_of HT_.out (by kernel_rfl)) (fun _ _ _ h => h) (Or.inr ⟨by rfl, rfl⟩) ?_ ?_
  rotate_left
  ·simp only [Act.put, List.setIfInBounds_toArray, List.set_cons_zero, List.set_cons_succ, i64_w, i32_w]
   rfl
  refine pure_ (i := 9) (N := some 89) (v := undef) (a' := ?_) #[true, true, true, true, true, true, true, true, true, true, false, false, false, false, false, false, false, false, false, false, false] rfl rfl (any_of HT_.out (by kernel_rfl)) (fun _ _ _ h => h) (Or.inr ⟨by rfl, rfl⟩) ?_ ?_
  rotate_left
  ·simp only [Act.put, List.setIfInBounds_toArray, List.set_cons_zero, List.set_cons_succ, i64_w, i32_w]
   rfl
  refine pure_ (i := 10) (N := some 90) (v := undef) (a' := ?_) #[true, true, true, true, true, true, true, true, true, true, true, false, false, false, false, false, false, false, false, false, false] rfl rfl (any_of HT_.out (by kernel_rfl)) (fun _ _ _ h => h) (Or.inr ⟨by rfl, rfl⟩) ?_ ?_
  rotate_left
  ·simp only [Act.put, List.setIfInBounds_toArray, List.set_cons_zero, List.set_cons_succ, i64_w, i32_w]
   rfl
  refine pure_ (i := 11) (N := some 91) (v := undef) (a' := ?_) #[true, true, true, true, true, true, true, true, true, true, true, true, false, false, false, false, false, false, false, false, false] rfl rfl (any_of HT_.out (by kernel_rfl)) (fun _ _ _ h => h) (Or.inr ⟨by rfl, rfl⟩) ?_ ?_
  rotate_left
  ·simp only [Act.put, List.setIfInBounds_toArray, List.set_cons_zero, List.set_cons_succ, i64_w, i32_w]
   rfl
  refine pure_ (i := 12) (N := some 92) (v := undef) (a' := ?_) #[true, true, true, true, true, true, true, true, true, true, true, true, true, false, false, false, false, false, false, false, false] rfl rfl (any_of HT_.out (by kernel_rfl)) (fun _ _ _ h => h) (Or.inr ⟨by rfl, rfl⟩) ?_ ?_
  rotate_left
  ·simp only [Act.put, List.setIfInBounds_toArray, List.set_cons_zero, List.set_cons_succ, i64_w, i32_w]
   rfl
  refine pure_ (i := 13) (N := some 93) (v := undef) (a' := ?_) #[true, true, true, true, true, true, true, true, true, true, true, true, true, true, false, false, false, false, false, false, false] rfl rfl (any_of HT_.out (by kernel_rfl)) (fun _ _ _ h => h) (Or.inr ⟨by rfl, rfl⟩) ?_ ?_
  rotate_left
  ·simp only [Act.put, List.setIfInBounds_toArray, List.set_cons_zero, List.set_cons_succ, i64_w, i32_w]
   rfl
  refine pure_ (i := 14) (N := some 94) (v := undef) (a' := ?_) #[true, true, true, true, true, true, true, true, true, true, true, true, true, true, true, false, false, false, false, false, false] rfl rfl (any_of HT_.out (by kernel_rfl)) (fun _ _ _ h => h) (Or.inr ⟨by rfl, rfl⟩) ?_ ?_
  rotate_left
  ·simp only [Act.put, List.setIfInBounds_toArray, List.set_cons_zero, List.set_cons_succ, i64_w, i32_w]
   rfl
  refine pure_ (i := 15) (N := some 95) (v := undef) (a' := ?_) #[true, true, true, true, true, true, true, true, true, true, true, true, true, true, true, true, false, false, false, false, false] rfl rfl (any_of HT_.out (by kernel_rfl)) (fun _ _ _ h => h) (Or.inr ⟨by rfl, rfl⟩) ?_ ?_
  rotate_left
  ·simp only [Act.put, List.setIfInBounds_toArray, List.set_cons_zero, List.set_cons_succ, i64_w, i32_w]
   rfl
  refine pure_ (i := 16) (N := some 96) (v := undef) (a' := ?_) #[true, true, true, true, true, true, true, true, true, true, true, true, true, true, true, true, true, false, false, false, false] rfl rfl (any_of HT_.out (by kernel_rfl)) (fun _ _ _ h => h) (Or.inr ⟨by rfl, rfl⟩) ?_ ?_
  rotate_left
  ·simp only [Act.put, List.setIfInBounds_toArray, List.set_cons_zero, List.set_cons_succ, i64_w, i32_w]
   rfl
  refine pure_ (i := 17) (N := some 97) (v := undef) (a' := ?_) #[true, true, true, true, true, true, true, true, true, true, true, true, true, true, true, true, true, true, false, false, false] rfl rfl (any_of HT_.out (by kernel_rfl)) (fun _ _ _ h => h) (Or.inr ⟨by rfl, rfl⟩) ?_ ?_
  rotate_left
  ·simp only [Act.put, List.setIfInBounds_toArray, List.set_cons_zero, List.set_cons_succ, i64_w, i32_w]
   rfl
  refine pure_ (i := 18) (N := some 98) (v := undef) (a' := ?_) #[true, true, true, true, true, true, true, true, true, true, true, true, true, true, true, true, true, true, true, false, false] rfl rfl (any_of HT_.out (by kernel_rfl)) (fun _ _ _ h => h) (Or.inr ⟨by rfl, rfl⟩) ?_ ?_
  rotate_left
  ·simp only [Act.put, List.setIfInBounds_toArray, List.set_cons_zero, List.set_cons_succ, i64_w, i32_w]
   rfl
  refine pure_ (i := 19) (N := some 99) (v := undef) (a' := ?_) #[true, true, true, true, true, true, true, true, true, true, true, true, true, true, true, true, true, true, true, true, false] rfl rfl (any_of HT_.out (by kernel_rfl)) (fun _ _ _ h => h) (Or.inr ⟨by rfl, rfl⟩) ?_ ?_
  rotate_left
  ·simp only [Act.put, List.setIfInBounds_toArray, List.set_cons_zero, List.set_cons_succ, i64_w, i32_w]
   rfl
  refine pure_ (i := 20) (N := some 100) (v := ?_) (a' := ?_) #[true, true, true, true, true, true, true, true, true, true, true, true, true, true, true, true, true, true, true, true, true] rfl rfl (any_of HT_.out (by kernel_rfl)) (fun _ _ _ h => h) (Or.inl ⟨by rfl, ?_⟩) ?_ ?_
  rotate_left
  ·intro w'
   go_simp
   with_reducible rfl
  rotate_left
  ·simp only [Act.put, List.setIfInBounds_toArray, List.set_cons_zero, List.set_cons_succ, i64_w, i32_w]
   rfl
  refine done_ (done_of HT_.out (by kernel_rfl)) ?_
  try go_wp2
  go_ret
  exact ⟨by first | rfl | (simp [errW_none, errW_some] <;> rfl) | (simp [*, errW_none, errW_some] <;> rfl), by repeat (first | (with_reducible first | exact HB.out | apply below_alloc | apply pw_below_drewN | apply below_drew1 | refine below_set ?_ GE105.out | refine below_set ?_ GE106.out | refine below_set ?_ GE107.out | refine below_set ?_ GE108.out) | exact HB.out)⟩
end Go.Proofs.Ytiicfblccklfhaa.PPG2
end
