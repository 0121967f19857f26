/- Printed by wip/xprint.py of this repo (a driver of the kit's print, with hand-proved contracts): for each Go function named below a Lean function with its answers, and that the machine's call comes to these answers, wherever the Lean function answers. -/
import Derived.Test.YtbkgdkhdmchdcaaDoorPVOx0
import Derived.Test.YtbkgdkhdmchdcaaDoorPVOx1
namespace Go.Proofs.YtbkgdkhdmchdcaaDoor.PVO
open Go.RowKit Go.Proofs.YtbkgdkhdmchdcaaDoorW.PrintWords Go.Proofs.YtbkgdkhdmchdcaaDoorW.PrintLast Go.Proofs.YtbkgdkhdmchdcaaDoorW.PrintMore
attribute [local go_sem] max2_int min2_int max_two min_two max_three min_three max_four min_four   -- for this text's walks alone
open Go.Proofs.YtbkgdkhdmchdcaaDoor.Ext Go.Proofs.YtbkgdkhdmchdcaaDoor.PM Go.Proofs.YtbkgdkhdmchdcaaDoor.PV
set_option linter.unusedVariables false
set_option linter.unusedSimpArgs false

attribute [local go_sem high] eqA23
/-! ### rabbetlaw1_ValueOrder: function 4 -/
mutual
def rabbetlaw1_ValueOrder.j0 : Nat → Bool → Int → Int → ByteArray → Int → Int → ByteArray → Int → Int → ByteArray → Option (Bool)
  | 0, _, _, _, _, _, _, _, _, _, _ => none
  | k + 1, x25, x102000, x102001, x102002, x103000, x103001, x103002, x104000, x104001, x104002 => if x25 = true then (some true) else ((value_Compare.f k x102000 x102001 x102002 x103000 x103001 x103002).bind fun t108 => ((value_Compare.f k x103000 x103001 x103002 x104000 x104001 x104002).bind fun t109 => ((value_Compare.f k x102000 x102001 x102002 x104000 x104001 x104002).bind fun t110 => ((value_Compare.f k x103000 x103001 x103002 x102000 x102001 x102002).bind fun t111 => (if t108 = (wrap64 (-t111)) then ((value_Compare.f k x102000 x102001 x102002 x102000 x102001 x102002).bind fun t112 => (if t112 = 0 then (if t108 < (-1) then (rabbetlaw1_ValueOrder.j1 k t108 t109 t110 true x102000 x102001 x102002 x103000 x103001 x103002) else (rabbetlaw1_ValueOrder.j1 k t108 t109 t110 (decide (t108 > 1)) x102000 x102001 x102002 x103000 x103001 x103002)) else (rabbetlaw1_ValueOrder.j1 k t108 t109 t110 true x102000 x102001 x102002 x103000 x103001 x103002))) else (rabbetlaw1_ValueOrder.j1 k t108 t109 t110 true x102000 x102001 x102002 x103000 x103001 x103002))))))
def rabbetlaw1_ValueOrder.j1 : Nat → Int → Int → Int → Bool → Int → Int → ByteArray → Int → Int → ByteArray → Option (Bool)
  | 0, _, _, _, _, _, _, _, _, _, _ => none
  | k + 1, x7, x8, x9, x54, x102000, x102001, x102002, x103000, x103001, x103002 => if x54 = true then (some false) else (if x7 ≤ 0 then (if x8 ≤ 0 then (if x9 > 0 then (rabbetlaw1_ValueOrder.j2 k x7 true x102000 x102001 x102002 x103000 x103001 x103002) else (if x7 < 0 then (if x9 ≥ 0 then (rabbetlaw1_ValueOrder.j2 k x7 true x102000 x102001 x102002 x103000 x103001 x103002) else (if x7 = 0 then (if x8 = 0 then (rabbetlaw1_ValueOrder.j2 k x7 (x9 != 0) x102000 x102001 x102002 x103000 x103001 x103002) else (rabbetlaw1_ValueOrder.j2 k x7 false x102000 x102001 x102002 x103000 x103001 x103002)) else (rabbetlaw1_ValueOrder.j2 k x7 false x102000 x102001 x102002 x103000 x103001 x103002))) else (if x7 = 0 then (if x8 = 0 then (rabbetlaw1_ValueOrder.j2 k x7 (x9 != 0) x102000 x102001 x102002 x103000 x103001 x103002) else (rabbetlaw1_ValueOrder.j2 k x7 false x102000 x102001 x102002 x103000 x103001 x103002)) else (rabbetlaw1_ValueOrder.j2 k x7 false x102000 x102001 x102002 x103000 x103001 x103002)))) else (if x7 < 0 then (if x7 = 0 then (if x8 = 0 then (rabbetlaw1_ValueOrder.j2 k x7 (x9 != 0) x102000 x102001 x102002 x103000 x103001 x103002) else (rabbetlaw1_ValueOrder.j2 k x7 false x102000 x102001 x102002 x103000 x103001 x103002)) else (rabbetlaw1_ValueOrder.j2 k x7 false x102000 x102001 x102002 x103000 x103001 x103002)) else (if x7 = 0 then (if x8 = 0 then (rabbetlaw1_ValueOrder.j2 k x7 (x9 != 0) x102000 x102001 x102002 x103000 x103001 x103002) else (rabbetlaw1_ValueOrder.j2 k x7 false x102000 x102001 x102002 x103000 x103001 x103002)) else (rabbetlaw1_ValueOrder.j2 k x7 false x102000 x102001 x102002 x103000 x103001 x103002)))) else (if x7 < 0 then (if x8 ≤ 0 then (if x9 ≥ 0 then (rabbetlaw1_ValueOrder.j2 k x7 true x102000 x102001 x102002 x103000 x103001 x103002) else (if x7 = 0 then (if x8 = 0 then (rabbetlaw1_ValueOrder.j2 k x7 (x9 != 0) x102000 x102001 x102002 x103000 x103001 x103002) else (rabbetlaw1_ValueOrder.j2 k x7 false x102000 x102001 x102002 x103000 x103001 x103002)) else (rabbetlaw1_ValueOrder.j2 k x7 false x102000 x102001 x102002 x103000 x103001 x103002))) else (if x7 = 0 then (if x8 = 0 then (rabbetlaw1_ValueOrder.j2 k x7 (x9 != 0) x102000 x102001 x102002 x103000 x103001 x103002) else (rabbetlaw1_ValueOrder.j2 k x7 false x102000 x102001 x102002 x103000 x103001 x103002)) else (rabbetlaw1_ValueOrder.j2 k x7 false x102000 x102001 x102002 x103000 x103001 x103002))) else (if x7 = 0 then (if x8 = 0 then (rabbetlaw1_ValueOrder.j2 k x7 (x9 != 0) x102000 x102001 x102002 x103000 x103001 x103002) else (rabbetlaw1_ValueOrder.j2 k x7 false x102000 x102001 x102002 x103000 x103001 x103002)) else (rabbetlaw1_ValueOrder.j2 k x7 false x102000 x102001 x102002 x103000 x103001 x103002))))
def rabbetlaw1_ValueOrder.j2 : Nat → Int → Bool → Int → Int → ByteArray → Int → Int → ByteArray → Option (Bool)
  | 0, _, _, _, _, _, _, _, _ => none
  | k + 1, x7, x88, x102000, x102001, x102002, x103000, x103001, x103002 => if x88 = true then (some false) else (if x102000 = 0 then (if x103000 = 0 then (if x102000 = 4 then (if x103000 = 4 then (if x7 = 0 then (if x102000 = x103000 then (if (x102001 == x103001 && (x102002.toList == x103002.toList)) = true then (some true) else (some false)) else (some false)) else (some true)) else (if x7 = 1 then (if x7 = 0 then (if x102000 = x103000 then (if (x102001 == x103001 && (x102002.toList == x103002.toList)) = true then (some true) else (some false)) else (some false)) else (some true)) else (some false))) else (if x7 = 0 then (if x102000 = x103000 then (if (x102001 == x103001 && (x102002.toList == x103002.toList)) = true then (some true) else (if x103000 = 4 then (some false) else (some (x102001 == x103001)))) else (if x103000 = 4 then (some false) else (some (x102001 == x103001)))) else (some true))) else (if x7 = (-1) then (if x102000 = 4 then (if x103000 = 4 then (if x7 = 0 then (if x102000 = x103000 then (if (x102001 == x103001 && (x102002.toList == x103002.toList)) = true then (some true) else (some false)) else (some false)) else (some true)) else (if x7 = 1 then (if x7 = 0 then (if x102000 = x103000 then (if (x102001 == x103001 && (x102002.toList == x103002.toList)) = true then (some true) else (some false)) else (some false)) else (some true)) else (some false))) else (if x7 = 0 then (if x102000 = x103000 then (if (x102001 == x103001 && (x102002.toList == x103002.toList)) = true then (some true) else (if x103000 = 4 then (some false) else (some (x102001 == x103001)))) else (if x103000 = 4 then (some false) else (some (x102001 == x103001)))) else (some true))) else (some false))) else (if x102000 = 4 then (if x103000 = 4 then (if x7 = 0 then (if x102000 = x103000 then (if (x102001 == x103001 && (x102002.toList == x103002.toList)) = true then (some true) else (some false)) else (some false)) else (some true)) else (if x7 = 1 then (if x7 = 0 then (if x102000 = x103000 then (if (x102001 == x103001 && (x102002.toList == x103002.toList)) = true then (some true) else (some false)) else (some false)) else (some true)) else (some false))) else (if x7 = 0 then (if x102000 = x103000 then (if (x102001 == x103001 && (x102002.toList == x103002.toList)) = true then (some true) else (if x103000 = 4 then (some false) else (some (x102001 == x103001)))) else (if x103000 = 4 then (some false) else (some (x102001 == x103001)))) else (some true))))
end
def rabbetlaw1_ValueOrder.f (k : Nat) (a0_0 : Int) (a0_1 : Int) (a0_2 : ByteArray) (a1_0 : Int) (a1_1 : Int) (a1_2 : ByteArray) (a2_0 : Int) (a2_1 : Int) (a2_2 : ByteArray) : Option (Bool) := (rabbetlaw1_begun.f k).bind fun t104 => (if t104 = true then ((value_May.f a0_0 a0_1 a0_2).bind fun t105 => (if t105 = true then ((value_May.f a1_0 a1_1 a1_2).bind fun t106 => (if t106 = true then ((value_May.f a2_0 a2_1 a2_2).bind fun t107 => (rabbetlaw1_ValueOrder.j0 k (!t107) a0_0 a0_1 a0_2 a1_0 a1_1 a1_2 a2_0 a2_1 a2_2)) else (rabbetlaw1_ValueOrder.j0 k true a0_0 a0_1 a0_2 a1_0 a1_1 a1_2 a2_0 a2_1 a2_2))) else (rabbetlaw1_ValueOrder.j0 k true a0_0 a0_1 a0_2 a1_0 a1_1 a1_2 a2_0 a2_1 a2_2))) else (some false))
theorem rabbetlaw1_ValueOrder.mono_l : ∀ k, (∀ y0 y1 y2 y3 y4 y5 y6 y7 y8 y9, LeO (rabbetlaw1_ValueOrder.j0 k y0 y1 y2 y3 y4 y5 y6 y7 y8 y9) (rabbetlaw1_ValueOrder.j0 (k + 1) y0 y1 y2 y3 y4 y5 y6 y7 y8 y9)) ∧ (∀ y0 y1 y2 y3 y4 y5 y6 y7 y8 y9, LeO (rabbetlaw1_ValueOrder.j1 k y0 y1 y2 y3 y4 y5 y6 y7 y8 y9) (rabbetlaw1_ValueOrder.j1 (k + 1) y0 y1 y2 y3 y4 y5 y6 y7 y8 y9)) ∧ (∀ y0 y1 y2 y3 y4 y5 y6 y7, LeO (rabbetlaw1_ValueOrder.j2 k y0 y1 y2 y3 y4 y5 y6 y7) (rabbetlaw1_ValueOrder.j2 (k + 1) y0 y1 y2 y3 y4 y5 y6 y7))
  | 0 => ⟨fun _ _ _ _ _ _ _ _ _ _ r h => by simp [rabbetlaw1_ValueOrder.j0] at h, fun _ _ _ _ _ _ _ _ _ _ r h => by simp [rabbetlaw1_ValueOrder.j1] at h, fun _ _ _ _ _ _ _ _ r h => by simp [rabbetlaw1_ValueOrder.j2] at h⟩
  | k + 1 => by
    obtain ⟨ih0, ih1, ih2⟩ := rabbetlaw1_ValueOrder.mono_l k
    refine ⟨?_, ?_, ?_⟩
    · intro y0 y1 y2 y3 y4 y5 y6 y7 y8 y9
      unfold rabbetlaw1_ValueOrder.j0
      repeat' first
      | (with_reducible exact ih0 _ _ _ _ _ _ _ _ _ _)
      | (with_reducible exact ih1 _ _ _ _ _ _ _ _ _ _)
      | (with_reducible exact ih2 _ _ _ _ _ _ _ _)
      | (with_reducible exact rabbetlaw1_begun.mono _)
      | (with_reducible exact value_Compare.mono _ _ _ _ _ _ _)
      | (with_reducible exact LeO.refl _)
      | (with_reducible exact LeO.none _)
      | (with_reducible refine LeO.ite ?_ ?_)
      | (with_reducible refine LeO.bind ?_ (fun _ => ?_))
      | exact ih0 _ _ _ _ _ _ _ _ _ _
      | exact ih1 _ _ _ _ _ _ _ _ _ _
      | exact ih2 _ _ _ _ _ _ _ _
      | exact rabbetlaw1_begun.mono _
      | exact value_Compare.mono _ _ _ _ _ _ _
      | exact LeO.none _
      | refine LeO.ite ?_ ?_
      | refine LeO.bind ?_ (fun _ => ?_)
    · intro y0 y1 y2 y3 y4 y5 y6 y7 y8 y9
      unfold rabbetlaw1_ValueOrder.j1
      repeat' first
      | (with_reducible exact ih0 _ _ _ _ _ _ _ _ _ _)
      | (with_reducible exact ih1 _ _ _ _ _ _ _ _ _ _)
      | (with_reducible exact ih2 _ _ _ _ _ _ _ _)
      | (with_reducible exact rabbetlaw1_begun.mono _)
      | (with_reducible exact value_Compare.mono _ _ _ _ _ _ _)
      | (with_reducible exact LeO.refl _)
      | (with_reducible exact LeO.none _)
      | (with_reducible refine LeO.ite ?_ ?_)
      | (with_reducible refine LeO.bind ?_ (fun _ => ?_))
      | exact ih0 _ _ _ _ _ _ _ _ _ _
      | exact ih1 _ _ _ _ _ _ _ _ _ _
      | exact ih2 _ _ _ _ _ _ _ _
      | exact rabbetlaw1_begun.mono _
      | exact value_Compare.mono _ _ _ _ _ _ _
      | exact LeO.none _
      | refine LeO.ite ?_ ?_
      | refine LeO.bind ?_ (fun _ => ?_)
    · intro y0 y1 y2 y3 y4 y5 y6 y7
      unfold rabbetlaw1_ValueOrder.j2
      repeat' first
      | (with_reducible exact ih0 _ _ _ _ _ _ _ _ _ _)
      | (with_reducible exact ih1 _ _ _ _ _ _ _ _ _ _)
      | (with_reducible exact ih2 _ _ _ _ _ _ _ _)
      | (with_reducible exact rabbetlaw1_begun.mono _)
      | (with_reducible exact value_Compare.mono _ _ _ _ _ _ _)
      | (with_reducible exact LeO.refl _)
      | (with_reducible exact LeO.none _)
      | (with_reducible refine LeO.ite ?_ ?_)
      | (with_reducible refine LeO.bind ?_ (fun _ => ?_))
      | exact ih0 _ _ _ _ _ _ _ _ _ _
      | exact ih1 _ _ _ _ _ _ _ _ _ _
      | exact ih2 _ _ _ _ _ _ _ _
      | exact rabbetlaw1_begun.mono _
      | exact value_Compare.mono _ _ _ _ _ _ _
      | exact LeO.none _
      | refine LeO.ite ?_ ?_
      | refine LeO.bind ?_ (fun _ => ?_)
theorem rabbetlaw1_ValueOrder.mono : ∀ a0 a1 a2 a3 a4 a5 a6 a7 a8 k, LeO (rabbetlaw1_ValueOrder.f k a0 a1 a2 a3 a4 a5 a6 a7 a8) (rabbetlaw1_ValueOrder.f (k + 1) a0 a1 a2 a3 a4 a5 a6 a7 a8) := by
  intro a0 a1 a2 a3 a4 a5 a6 a7 a8 k
  obtain ⟨ih0, ih1, ih2⟩ := rabbetlaw1_ValueOrder.mono_l k
  unfold rabbetlaw1_ValueOrder.f
  repeat' first
      | (with_reducible exact ih0 _ _ _ _ _ _ _ _ _ _)
      | (with_reducible exact ih1 _ _ _ _ _ _ _ _ _ _)
      | (with_reducible exact ih2 _ _ _ _ _ _ _ _)
      | (with_reducible exact rabbetlaw1_begun.mono _)
      | (with_reducible exact value_Compare.mono _ _ _ _ _ _ _)
      | (with_reducible exact LeO.refl _)
      | (with_reducible exact LeO.none _)
      | (with_reducible refine LeO.ite ?_ ?_)
      | (with_reducible refine LeO.bind ?_ (fun _ => ?_))
      | exact ih0 _ _ _ _ _ _ _ _ _ _
      | exact ih1 _ _ _ _ _ _ _ _ _ _
      | exact ih2 _ _ _ _ _ _ _ _
      | exact rabbetlaw1_begun.mono _
      | exact value_Compare.mono _ _ _ _ _ _ _
      | exact LeO.none _
      | refine LeO.ite ?_ ?_
      | refine LeO.bind ?_ (fun _ => ?_)
def rabbetlaw1_ValueOrder.T5 : Bool × List (List Nat × List Nat) := (true, [([], []), ([], []), ([0, 1], [0, 1]), ([], []), ([], []), ([3, 4, 2], [3, 4]), ([], []), ([], []), ([6, 7, 5], [6, 7]), ([2, 8, 0, 1, 2], [2]), ([5, 9, 0, 1, 2, 3, 4, 5, 9], [5]), ([8, 10, 0, 1, 2, 3, 4, 5, 6, 7, 8, 9, 10], [8])])
def rabbetlaw1_ValueOrder.B5 : List Nat := [0, 0, 3, 0, 0, 31, 0, 0, 255, 511, 1023, 2047]
theorem rabbetlaw1_ValueOrder.tab5 : rtab .any (opsOf Tryd.f4 5) = rabbetlaw1_ValueOrder.T5 := by kernel_rfl
theorem rabbetlaw1_ValueOrder.bits5 : waitsOk rabbetlaw1_ValueOrder.T5.2 rabbetlaw1_ValueOrder.B5 = true := by kernel_rfl
set_option maxHeartbeats 8000000 in
set_option maxRecDepth 100000 in
theorem rabbetlaw1_ValueOrder.calls (k : Nat) (a0_0 : Int) (a0_1 : Int) (a0_2 : ByteArray) (a1_0 : Int) (a1_1 : Int) (a1_2 : ByteArray) (a2_0 : Int) (a2_1 : Int) (a2_2 : ByteArray) (r : Bool) (w : World) (hG : Laid w) (h : rabbetlaw1_ValueOrder.f k a0_0 a0_1 a0_2 a1_0 a1_1 a1_2 a2_0 a2_1 a2_2 = some r) :
    Calls Tryd.prog 4 #[.agg #[.int .i64 a0_0, .int .i64 a0_1, .string a0_2], .agg #[.int .i64 a1_0, .int .i64 a1_1, .string a1_2], .agg #[.int .i64 a2_0, .int .i64 a2_1, .string a2_2]] w fun e w' => e = .returned (.bool r) ∧ Below w.heap.size w w' := by
  have hu23 := Tryd.underlying23
  have HGL := Aside0.mk hG
  clear hG
  have HB := Aside0.mk (Below.refl w.heap.size w)
  have H : ((rabbetlaw1_begun.f k).bind fun t104 => (if t104 = true then ((value_May.f a0_0 a0_1 a0_2).bind fun t105 => (if t105 = true then ((value_May.f a1_0 a1_1 a1_2).bind fun t106 => (if t106 = true then ((value_May.f a2_0 a2_1 a2_2).bind fun t107 => (rabbetlaw1_ValueOrder.j0 k (!t107) a0_0 a0_1 a0_2 a1_0 a1_1 a1_2 a2_0 a2_1 a2_2)) else (rabbetlaw1_ValueOrder.j0 k true a0_0 a0_1 a0_2 a1_0 a1_1 a1_2 a2_0 a2_1 a2_2))) else (rabbetlaw1_ValueOrder.j0 k true a0_0 a0_1 a0_2 a1_0 a1_1 a1_2 a2_0 a2_1 a2_2))) else (some false))) = some r := h
  clear h
  replace H := Option.bind_eq_some_iff.mp H
  obtain ⟨t104, A40, H⟩ := H
  replace H : (if t104 = true then ((value_May.f a0_0 a0_1 a0_2).bind fun t105 => (if t105 = true then ((value_May.f a1_0 a1_1 a1_2).bind fun t106 => (if t106 = true then ((value_May.f a2_0 a2_1 a2_2).bind fun t107 => (rabbetlaw1_ValueOrder.j0 k (!t107) a0_0 a0_1 a0_2 a1_0 a1_1 a1_2 a2_0 a2_1 a2_2)) else (rabbetlaw1_ValueOrder.j0 k true a0_0 a0_1 a0_2 a1_0 a1_1 a1_2 a2_0 a2_1 a2_2))) else (rabbetlaw1_ValueOrder.j0 k true a0_0 a0_1 a0_2 a1_0 a1_1 a1_2 a2_0 a2_1 a2_2))) else (some false)) = some r := H
  have A4 := Aside0.mk A40
  clear A40
  by_cases c5 : t104 = true
  · subst c5
    have H1 : ((value_May.f a0_0 a0_1 a0_2).bind fun t105 => (if t105 = true then ((value_May.f a1_0 a1_1 a1_2).bind fun t106 => (if t106 = true then ((value_May.f a2_0 a2_1 a2_2).bind fun t107 => (rabbetlaw1_ValueOrder.j0 k (!t107) a0_0 a0_1 a0_2 a1_0 a1_1 a1_2 a2_0 a2_1 a2_2)) else (rabbetlaw1_ValueOrder.j0 k true a0_0 a0_1 a0_2 a1_0 a1_1 a1_2 a2_0 a2_1 a2_2))) else (rabbetlaw1_ValueOrder.j0 k true a0_0 a0_1 a0_2 a1_0 a1_1 a1_2 a2_0 a2_1 a2_2))) = some r := by rw [if_pos rfl] at H; exact H
    clear H
    have H := H1
    clear H1
    have HC6 := Aside0.mk H
    clear H
    go_enter Tryd.func4, Tryd.ntmps4
    go_upto_region 3 with (first | ((with_reducible refine gate_dst (N := 3) rfl ?_); refine box_event ?hg (N := 3) ?hd (cs := #[.int .i64 a0_0, .int .i64 a0_1, .string a0_2]) (t := 23) ?hr ?_; (case hd => rfl); (case hg => rfl); (case hr => first | (go_simp; done) | (go_simp; rfl)); intro gb101 hg w7 hbox hb; have n0_ := Aside0.mk (below_step (by repeat (first | (with_reducible first | exact HB.out | apply below_alloc | apply pw_below_drewN | apply below_drew1) | exact HB.out)) hb); have n1_ := Aside0.mk (hbox); have n2_ := Aside0.mk ((by rw [hg]; exact (below_size (by repeat (first | (with_reducible first | exact HB.out | apply below_alloc | apply pw_below_drewN | apply below_drew1) | exact HB.out))) : w.heap.size ≤ gb101)); have n3_ := Aside0.mk ((by rw [hg]; exact (below_size (by repeat (first | (with_reducible first | exact HB.out | apply below_alloc | apply pw_below_drewN | apply below_drew1) | exact HB.out))) : w.heap.size ≤ gb101)); clear HB; have HB := n0_; have BK101 := n1_; have GW101 := n2_; have GE101 := n3_; clear n0_ n1_ n2_ n3_; clear hb hbox hg) | ((with_reducible refine gate_dst (N := 4) rfl ?_); refine box_event ?hg (N := 4) ?hd (cs := #[.int .i64 a1_0, .int .i64 a1_1, .string a1_2]) (t := 23) ?hr ?_; (case hd => rfl); (case hg => rfl); (case hr => first | (go_simp; done) | (go_simp; rfl)); intro gb102 hg w8 hbox hb; have n0_ := Aside0.mk (blk_below (g := gb101) (o := .cells #[.int .i64 a0_0, .int .i64 a0_1, .string a0_2] 23 (0, 0)) (by (with_reducible repeat (first | refine blk_drewN ?_ _ | refine blk_drew ?_ | refine blk_alloc ?_ _)); exact BK101.out) hb); have n1_ := Aside0.mk (below_step (by repeat (first | (with_reducible first | exact HB.out | apply below_alloc | apply pw_below_drewN | apply below_drew1 | refine below_set ?_ GE101.out) | exact HB.out)) hb); have n2_ := Aside0.mk (hbox); have n3_ := Aside0.mk ((by rw [hg]; exact (below_size (by repeat (first | (with_reducible first | exact HB.out | apply below_alloc | apply pw_below_drewN | apply below_drew1 | refine below_set ?_ GE101.out) | exact HB.out))) : w.heap.size ≤ gb102)); have n4_ := Aside0.mk ((by rw [hg]; exact (below_size (by repeat (first | (with_reducible first | exact HB.out | apply below_alloc | apply pw_below_drewN | apply below_drew1 | refine below_set ?_ GE101.out) | exact HB.out))) : w.heap.size ≤ gb102)); have n5_ := Aside0.mk ((by rw [hg]; exact Nat.ne_of_lt (blk_lt (g := gb101) (o := .cells #[.int .i64 a0_0, .int .i64 a0_1, .string a0_2] 23 (0, 0)) (by (with_reducible repeat (first | refine blk_drewN ?_ _ | refine blk_drew ?_ | refine blk_alloc ?_ _)); exact BK101.out)) : gb101 ≠ gb102)); have n6_ := Aside0.mk ((by rw [hg]; exact Nat.ne_of_gt (blk_lt (g := gb101) (o := .cells #[.int .i64 a0_0, .int .i64 a0_1, .string a0_2] 23 (0, 0)) (by (with_reducible repeat (first | refine blk_drewN ?_ _ | refine blk_drew ?_ | refine blk_alloc ?_ _)); exact BK101.out)) : gb102 ≠ gb101)); clear BK101; clear HB; have BK101 := n0_; have HB := n1_; have BK102 := n2_; have GW102 := n3_; have GE102 := n4_; have NB101_102 := n5_; have NB102_101 := n6_; clear n0_ n1_ n2_ n3_ n4_ n5_ n6_; clear hb hbox hg) | ((with_reducible refine gate_dst (N := 5) rfl ?_); refine box_event ?hg (N := 5) ?hd (cs := #[.int .i64 a2_0, .int .i64 a2_1, .string a2_2]) (t := 23) ?hr ?_; (case hd => rfl); (case hg => rfl); (case hr => first | (go_simp; done) | (go_simp; rfl)); intro gb103 hg w9 hbox hb; have n0_ := Aside0.mk (blk_below (g := gb101) (o := .cells #[.int .i64 a0_0, .int .i64 a0_1, .string a0_2] 23 (0, 0)) (by (with_reducible repeat (first | refine blk_drewN ?_ _ | refine blk_drew ?_ | refine blk_alloc ?_ _)); exact BK101.out) hb); have n1_ := Aside0.mk (blk_below (g := gb102) (o := .cells #[.int .i64 a1_0, .int .i64 a1_1, .string a1_2] 23 (0, 0)) (by (with_reducible repeat (first | refine blk_drewN ?_ _ | refine blk_drew ?_ | refine blk_alloc ?_ _)); exact BK102.out) hb); have n2_ := Aside0.mk (below_step (by repeat (first | (with_reducible first | exact HB.out | apply below_alloc | apply pw_below_drewN | apply below_drew1 | refine below_set ?_ GE101.out | refine below_set ?_ GE102.out) | exact HB.out)) hb); have n3_ := Aside0.mk (hbox); have n4_ := Aside0.mk ((by rw [hg]; exact (below_size (by repeat (first | (with_reducible first | exact HB.out | apply below_alloc | apply pw_below_drewN | apply below_drew1 | refine below_set ?_ GE101.out | refine below_set ?_ GE102.out) | exact HB.out))) : w.heap.size ≤ gb103)); have n5_ := Aside0.mk ((by rw [hg]; exact (below_size (by repeat (first | (with_reducible first | exact HB.out | apply below_alloc | apply pw_below_drewN | apply below_drew1 | refine below_set ?_ GE101.out | refine below_set ?_ GE102.out) | exact HB.out))) : w.heap.size ≤ gb103)); have n6_ := Aside0.mk ((by rw [hg]; exact Nat.ne_of_lt (blk_lt (g := gb101) (o := .cells #[.int .i64 a0_0, .int .i64 a0_1, .string a0_2] 23 (0, 0)) (by (with_reducible repeat (first | refine blk_drewN ?_ _ | refine blk_drew ?_ | refine blk_alloc ?_ _)); exact BK101.out)) : gb101 ≠ gb103)); have n7_ := Aside0.mk ((by rw [hg]; exact Nat.ne_of_gt (blk_lt (g := gb101) (o := .cells #[.int .i64 a0_0, .int .i64 a0_1, .string a0_2] 23 (0, 0)) (by (with_reducible repeat (first | refine blk_drewN ?_ _ | refine blk_drew ?_ | refine blk_alloc ?_ _)); exact BK101.out)) : gb103 ≠ gb101)); have n8_ := Aside0.mk ((by rw [hg]; exact Nat.ne_of_lt (blk_lt (g := gb102) (o := .cells #[.int .i64 a1_0, .int .i64 a1_1, .string a1_2] 23 (0, 0)) (by (with_reducible repeat (first | refine blk_drewN ?_ _ | refine blk_drew ?_ | refine blk_alloc ?_ _)); exact BK102.out)) : gb102 ≠ gb103)); have n9_ := Aside0.mk ((by rw [hg]; exact Nat.ne_of_gt (blk_lt (g := gb102) (o := .cells #[.int .i64 a1_0, .int .i64 a1_1, .string a1_2] 23 (0, 0)) (by (with_reducible repeat (first | refine blk_drewN ?_ _ | refine blk_drew ?_ | refine blk_alloc ?_ _)); exact BK102.out)) : gb103 ≠ gb102)); clear BK101; clear BK102; clear HB; have BK101 := n0_; have BK102 := n1_; have HB := n2_; have BK103 := n3_; have GW103 := n4_; have GE103 := n5_; have NB101_103 := n6_; have NB103_101 := n7_; have NB102_103 := n8_; have NB103_102 := n9_; clear n0_ n1_ n2_ n3_ n4_ n5_ n6_ n7_ n8_ n9_; clear hb hbox hg) | ((with_reducible refine gate_callee (f := 8) rfl ?_); refine goesL_ (some 11) rfl rfl Tryd.func8 (by kernel_rfl) rfl #[] rfl (by (try simp only [List.map_toArray, List.map_cons, List.map_nil]); first | done | rfl | (simp only [List.length_drop, List.length_take]; rfl)) ?_; (with_reducible refine (rabbetlaw1_begun.calls k  true _ ?side1 A4.out).mono ?_); (case side1 => exact Laid.mono HGL.out (by repeat (first | (with_reducible first | exact HB.out | apply below_alloc | apply pw_below_drewN | apply below_drew1 | refine below_set ?_ GE101.out | refine below_set ?_ GE102.out | refine below_set ?_ GE103.out) | exact HB.out))); rintro e w10 ⟨rfl, hb⟩; refine ⟨_, rfl, ?_⟩; have n0_ := Aside0.mk (blk_below (g := gb101) (o := .cells #[.int .i64 a0_0, .int .i64 a0_1, .string a0_2] 23 (0, 0)) (by (with_reducible repeat (first | refine blk_drewN ?_ _ | refine blk_drew ?_ | refine blk_alloc ?_ _)); exact BK101.out) hb); have n1_ := Aside0.mk (blk_below (g := gb102) (o := .cells #[.int .i64 a1_0, .int .i64 a1_1, .string a1_2] 23 (0, 0)) (by (with_reducible repeat (first | refine blk_drewN ?_ _ | refine blk_drew ?_ | refine blk_alloc ?_ _)); exact BK102.out) hb); have n2_ := Aside0.mk (blk_below (g := gb103) (o := .cells #[.int .i64 a2_0, .int .i64 a2_1, .string a2_2] 23 (0, 0)) (by (with_reducible repeat (first | refine blk_drewN ?_ _ | refine blk_drew ?_ | refine blk_alloc ?_ _)); exact BK103.out) hb); have n3_ := Aside0.mk (below_step (by repeat (first | (with_reducible first | exact HB.out | apply below_alloc | apply pw_below_drewN | apply below_drew1 | refine below_set ?_ GE101.out | refine below_set ?_ GE102.out | refine below_set ?_ GE103.out) | exact HB.out)) hb); clear BK101; clear BK102; clear BK103; clear HB; have BK101 := n0_; have BK102 := n1_; have BK103 := n2_; have HB := n3_; clear n0_ n1_ n2_ n3_; (try clear hb); (try clear hb2); (try clear hk); (try clear hi)))
    (try simp only [Act.put, List.setIfInBounds_toArray, List.set_cons_zero, List.set_cons_succ])
    go_cut [25] (fun v25 wc => ∃ (kq : Nat) (x25_5 : Bool), v25 = .bool x25_5 ∧ Aside0 (rabbetlaw1_ValueOrder.j0 kq x25_5 a0_0 a0_1 a0_2 a1_0 a1_1 a1_2 a2_0 a2_1 a2_2 = some r) ∧ Aside0 (kq ≤ k) ∧ Aside0 (wc.heap[gb101]? = some (.cells #[.int .i64 a0_0, .int .i64 a0_1, .string a0_2] 23 (0, 0))) ∧ Aside0 (wc.heap[gb102]? = some (.cells #[.int .i64 a1_0, .int .i64 a1_1, .string a1_2] 23 (0, 0))) ∧ Aside0 (wc.heap[gb103]? = some (.cells #[.int .i64 a2_0, .int .i64 a2_1, .string a2_2] 23 (0, 0))) ∧ Aside0 (Below w.heap.size w wc))
    case first =>
      have H := HC6.out
      clear HC6
      replace H := Option.bind_eq_some_iff.mp H
      obtain ⟨t105, A110, H⟩ := H
      replace H : (if t105 = true then ((value_May.f a1_0 a1_1 a1_2).bind fun t106 => (if t106 = true then ((value_May.f a2_0 a2_1 a2_2).bind fun t107 => (rabbetlaw1_ValueOrder.j0 k (!t107) a0_0 a0_1 a0_2 a1_0 a1_1 a1_2 a2_0 a2_1 a2_2)) else (rabbetlaw1_ValueOrder.j0 k true a0_0 a0_1 a0_2 a1_0 a1_1 a1_2 a2_0 a2_1 a2_2))) else (rabbetlaw1_ValueOrder.j0 k true a0_0 a0_1 a0_2 a1_0 a1_1 a1_2 a2_0 a2_1 a2_2)) = some r := H
      have A11 := Aside0.mk A110
      clear A110
      by_cases c12 : t105 = true
      · subst c12
        have H1 : ((value_May.f a1_0 a1_1 a1_2).bind fun t106 => (if t106 = true then ((value_May.f a2_0 a2_1 a2_2).bind fun t107 => (rabbetlaw1_ValueOrder.j0 k (!t107) a0_0 a0_1 a0_2 a1_0 a1_1 a1_2 a2_0 a2_1 a2_2)) else (rabbetlaw1_ValueOrder.j0 k true a0_0 a0_1 a0_2 a1_0 a1_1 a1_2 a2_0 a2_1 a2_2))) = some r := by rw [if_pos rfl] at H; exact H
        clear H
        have H := H1
        clear H1
        replace H := Option.bind_eq_some_iff.mp H
        obtain ⟨t106, A130, H⟩ := H
        replace H : (if t106 = true then ((value_May.f a2_0 a2_1 a2_2).bind fun t107 => (rabbetlaw1_ValueOrder.j0 k (!t107) a0_0 a0_1 a0_2 a1_0 a1_1 a1_2 a2_0 a2_1 a2_2)) else (rabbetlaw1_ValueOrder.j0 k true a0_0 a0_1 a0_2 a1_0 a1_1 a1_2 a2_0 a2_1 a2_2)) = some r := H
        have A13 := Aside0.mk A130
        clear A130
        by_cases c14 : t106 = true
        · subst c14
          have H1 : ((value_May.f a2_0 a2_1 a2_2).bind fun t107 => (rabbetlaw1_ValueOrder.j0 k (!t107) a0_0 a0_1 a0_2 a1_0 a1_1 a1_2 a2_0 a2_1 a2_2)) = some r := by rw [if_pos rfl] at H; exact H
          clear H
          have H := H1
          clear H1
          replace H := Option.bind_eq_some_iff.mp H
          obtain ⟨t107, A150, H⟩ := H
          replace H : (rabbetlaw1_ValueOrder.j0 k (!t107) a0_0 a0_1 a0_2 a1_0 a1_1 a1_2 a2_0 a2_1 a2_2) = some r := H
          have A15 := Aside0.mk A150
          clear A150
          as_aux_lemma =>
            have H' := Aside0.mk H
            clear H
            have hnb16 := NB101_102.out
            have hnc16 := NB102_101.out
            have hnb17 := NB101_103.out
            have hnc17 := NB103_101.out
            have hcz18_0 : w10.cell? ⟨gb101, 0, none⟩ = some (.int .i64 a0_0) := (blk_cell BK101.out 0).trans rfl
            have hcz18_1 : w10.cell? ⟨gb101, 1, none⟩ = some (.int .i64 a0_1) := (blk_cell BK101.out 1).trans rfl
            have hcz18_2 : w10.cell? ⟨gb101, 2, none⟩ = some (.string a0_2) := (blk_cell BK101.out 2).trans rfl
            have hfz18_0 := blk_frozen BK101.out 0
            have hfz18_1 := blk_frozen BK101.out 1
            have hfz18_2 := blk_frozen BK101.out 2
            go_wp2_with (first | ((with_reducible refine gate_callee (f := 12) rfl ?_); refine goesL_ (some 14) rfl rfl Tryd.func12 (by kernel_rfl) rfl #[.agg #[.int .i64 a0_0, .int .i64 a0_1, .string a0_2]] rfl (by (try simp only [List.map_toArray, List.map_cons, List.map_nil]); first | done | rfl | (simp only [List.length_drop, List.length_take]; rfl)) ?_; (with_reducible refine (value_May.calls a0_0 a0_1 a0_2 true _ A11.out).mono ?_); rintro e w19 ⟨rfl, hb⟩; refine ⟨_, rfl, ?_⟩; have n0_ := Aside0.mk (blk_below (g := gb101) (o := .cells #[.int .i64 a0_0, .int .i64 a0_1, .string a0_2] 23 (0, 0)) (by (with_reducible repeat (first | refine blk_drewN ?_ _ | refine blk_drew ?_ | refine blk_alloc ?_ _)); exact BK101.out) hb); have n1_ := Aside0.mk (blk_below (g := gb102) (o := .cells #[.int .i64 a1_0, .int .i64 a1_1, .string a1_2] 23 (0, 0)) (by (with_reducible repeat (first | refine blk_drewN ?_ _ | refine blk_drew ?_ | refine blk_alloc ?_ _)); exact BK102.out) hb); have n2_ := Aside0.mk (blk_below (g := gb103) (o := .cells #[.int .i64 a2_0, .int .i64 a2_1, .string a2_2] 23 (0, 0)) (by (with_reducible repeat (first | refine blk_drewN ?_ _ | refine blk_drew ?_ | refine blk_alloc ?_ _)); exact BK103.out) hb); have n3_ := Aside0.mk (below_step (by repeat (first | (with_reducible first | exact HB.out | apply below_alloc | apply pw_below_drewN | apply below_drew1 | refine below_set ?_ GE101.out | refine below_set ?_ GE102.out | refine below_set ?_ GE103.out) | exact HB.out)) hb); clear BK101; clear BK102; clear BK103; clear HB; have BK101 := n0_; have BK102 := n1_; have BK103 := n2_; have HB := n3_; clear n0_ n1_ n2_ n3_; (try clear hb); (try clear hb2); (try clear hk); (try clear hi); have hnb20 := NB102_103.out; have hnc20 := NB103_102.out; have hcz21_0 : w19.cell? ⟨gb102, 0, none⟩ = some (.int .i64 a1_0) := (blk_cell BK102.out 0).trans rfl; have hcz21_1 : w19.cell? ⟨gb102, 1, none⟩ = some (.int .i64 a1_1) := (blk_cell BK102.out 1).trans rfl; have hcz21_2 : w19.cell? ⟨gb102, 2, none⟩ = some (.string a1_2) := (blk_cell BK102.out 2).trans rfl; have hfz21_0 := blk_frozen BK102.out 0; have hfz21_1 := blk_frozen BK102.out 1; have hfz21_2 := blk_frozen BK102.out 2) | (go_at_call 12; (with_reducible refine (value_May.calls a1_0 a1_1 a1_2 true _ A13.out).mono ?_); rintro e w22 ⟨rfl, hb⟩; have n0_ := Aside0.mk (blk_below (g := gb101) (o := .cells #[.int .i64 a0_0, .int .i64 a0_1, .string a0_2] 23 (0, 0)) (by (with_reducible repeat (first | refine blk_drewN ?_ _ | refine blk_drew ?_ | refine blk_alloc ?_ _)); exact BK101.out) hb); have n1_ := Aside0.mk (blk_below (g := gb102) (o := .cells #[.int .i64 a1_0, .int .i64 a1_1, .string a1_2] 23 (0, 0)) (by (with_reducible repeat (first | refine blk_drewN ?_ _ | refine blk_drew ?_ | refine blk_alloc ?_ _)); exact BK102.out) hb); have n2_ := Aside0.mk (blk_below (g := gb103) (o := .cells #[.int .i64 a2_0, .int .i64 a2_1, .string a2_2] 23 (0, 0)) (by (with_reducible repeat (first | refine blk_drewN ?_ _ | refine blk_drew ?_ | refine blk_alloc ?_ _)); exact BK103.out) hb); have n3_ := Aside0.mk (below_step (by repeat (first | (with_reducible first | exact HB.out | apply below_alloc | apply pw_below_drewN | apply below_drew1 | refine below_set ?_ GE101.out | refine below_set ?_ GE102.out | refine below_set ?_ GE103.out) | exact HB.out)) hb); clear BK101; clear BK102; clear BK103; clear HB; have BK101 := n0_; have BK102 := n1_; have BK103 := n2_; have HB := n3_; clear n0_ n1_ n2_ n3_; (try clear hb); (try clear hb2); (try clear hk); (try clear hi); have hcz23_0 : w22.cell? ⟨gb103, 0, none⟩ = some (.int .i64 a2_0) := (blk_cell BK103.out 0).trans rfl; have hcz23_1 : w22.cell? ⟨gb103, 1, none⟩ = some (.int .i64 a2_1) := (blk_cell BK103.out 1).trans rfl; have hcz23_2 : w22.cell? ⟨gb103, 2, none⟩ = some (.string a2_2) := (blk_cell BK103.out 2).trans rfl; have hfz23_0 := blk_frozen BK103.out 0; have hfz23_1 := blk_frozen BK103.out 1; have hfz23_2 := blk_frozen BK103.out 2) | (go_at_call 12; (with_reducible refine (value_May.calls a2_0 a2_1 a2_2 t107 _ A15.out).mono ?_); rintro e w24 ⟨rfl, hb⟩; have n0_ := Aside0.mk (blk_below (g := gb101) (o := .cells #[.int .i64 a0_0, .int .i64 a0_1, .string a0_2] 23 (0, 0)) (by (with_reducible repeat (first | refine blk_drewN ?_ _ | refine blk_drew ?_ | refine blk_alloc ?_ _)); exact BK101.out) hb); have n1_ := Aside0.mk (blk_below (g := gb102) (o := .cells #[.int .i64 a1_0, .int .i64 a1_1, .string a1_2] 23 (0, 0)) (by (with_reducible repeat (first | refine blk_drewN ?_ _ | refine blk_drew ?_ | refine blk_alloc ?_ _)); exact BK102.out) hb); have n2_ := Aside0.mk (blk_below (g := gb103) (o := .cells #[.int .i64 a2_0, .int .i64 a2_1, .string a2_2] 23 (0, 0)) (by (with_reducible repeat (first | refine blk_drewN ?_ _ | refine blk_drew ?_ | refine blk_alloc ?_ _)); exact BK103.out) hb); have n3_ := Aside0.mk (below_step (by repeat (first | (with_reducible first | exact HB.out | apply below_alloc | apply pw_below_drewN | apply below_drew1 | refine below_set ?_ GE101.out | refine below_set ?_ GE102.out | refine below_set ?_ GE103.out) | exact HB.out)) hb); clear BK101; clear BK102; clear BK103; clear HB; have BK101 := n0_; have BK102 := n1_; have BK103 := n2_; have HB := n3_; clear n0_ n1_ n2_ n3_; (try clear hb); (try clear hb2); (try clear hk); (try clear hi)))
            go_meet
            case rel => exact ⟨_, (!t107), (by first | rfl | (simp; done) | (simp [*]; done)), H', ⟨by first | omega | exact Nat.le_refl _⟩, ⟨by (with_reducible repeat (first | refine blk_drewN ?_ _ | refine blk_drew ?_ | refine blk_alloc ?_ _)); exact BK101.out⟩, ⟨by (with_reducible repeat (first | refine blk_drewN ?_ _ | refine blk_drew ?_ | refine blk_alloc ?_ _)); exact BK102.out⟩, ⟨by (with_reducible repeat (first | refine blk_drewN ?_ _ | refine blk_drew ?_ | refine blk_alloc ?_ _)); exact BK103.out⟩, ⟨by repeat (first | (with_reducible first | exact HB.out | apply below_alloc | apply pw_below_drewN | apply below_drew1 | refine below_set ?_ GE101.out | refine below_set ?_ GE102.out | refine below_set ?_ GE103.out) | exact HB.out)⟩⟩
        · replace c14 := Bool.eq_false_iff.mpr c14
          subst c14
          have H1 : (rabbetlaw1_ValueOrder.j0 k true a0_0 a0_1 a0_2 a1_0 a1_1 a1_2 a2_0 a2_1 a2_2) = some r := by rw [if_neg (show ¬ (false = true) by decide)] at H; exact H
          clear H
          have H := H1
          clear H1
          as_aux_lemma =>
            have H' := Aside0.mk H
            clear H
            have hnb25 := NB101_102.out
            have hnc25 := NB102_101.out
            have hnb26 := NB101_103.out
            have hnc26 := NB103_101.out
            have hcz27_0 : w10.cell? ⟨gb101, 0, none⟩ = some (.int .i64 a0_0) := (blk_cell BK101.out 0).trans rfl
            have hcz27_1 : w10.cell? ⟨gb101, 1, none⟩ = some (.int .i64 a0_1) := (blk_cell BK101.out 1).trans rfl
            have hcz27_2 : w10.cell? ⟨gb101, 2, none⟩ = some (.string a0_2) := (blk_cell BK101.out 2).trans rfl
            have hfz27_0 := blk_frozen BK101.out 0
            have hfz27_1 := blk_frozen BK101.out 1
            have hfz27_2 := blk_frozen BK101.out 2
            go_wp2_with (first | ((with_reducible refine gate_callee (f := 12) rfl ?_); refine goesL_ (some 14) rfl rfl Tryd.func12 (by kernel_rfl) rfl #[.agg #[.int .i64 a0_0, .int .i64 a0_1, .string a0_2]] rfl (by (try simp only [List.map_toArray, List.map_cons, List.map_nil]); first | done | rfl | (simp only [List.length_drop, List.length_take]; rfl)) ?_; (with_reducible refine (value_May.calls a0_0 a0_1 a0_2 true _ A11.out).mono ?_); rintro e w28 ⟨rfl, hb⟩; refine ⟨_, rfl, ?_⟩; have n0_ := Aside0.mk (blk_below (g := gb101) (o := .cells #[.int .i64 a0_0, .int .i64 a0_1, .string a0_2] 23 (0, 0)) (by (with_reducible repeat (first | refine blk_drewN ?_ _ | refine blk_drew ?_ | refine blk_alloc ?_ _)); exact BK101.out) hb); have n1_ := Aside0.mk (blk_below (g := gb102) (o := .cells #[.int .i64 a1_0, .int .i64 a1_1, .string a1_2] 23 (0, 0)) (by (with_reducible repeat (first | refine blk_drewN ?_ _ | refine blk_drew ?_ | refine blk_alloc ?_ _)); exact BK102.out) hb); have n2_ := Aside0.mk (blk_below (g := gb103) (o := .cells #[.int .i64 a2_0, .int .i64 a2_1, .string a2_2] 23 (0, 0)) (by (with_reducible repeat (first | refine blk_drewN ?_ _ | refine blk_drew ?_ | refine blk_alloc ?_ _)); exact BK103.out) hb); have n3_ := Aside0.mk (below_step (by repeat (first | (with_reducible first | exact HB.out | apply below_alloc | apply pw_below_drewN | apply below_drew1 | refine below_set ?_ GE101.out | refine below_set ?_ GE102.out | refine below_set ?_ GE103.out) | exact HB.out)) hb); clear BK101; clear BK102; clear BK103; clear HB; have BK101 := n0_; have BK102 := n1_; have BK103 := n2_; have HB := n3_; clear n0_ n1_ n2_ n3_; (try clear hb); (try clear hb2); (try clear hk); (try clear hi); have hnb29 := NB102_103.out; have hnc29 := NB103_102.out; have hcz30_0 : w28.cell? ⟨gb102, 0, none⟩ = some (.int .i64 a1_0) := (blk_cell BK102.out 0).trans rfl; have hcz30_1 : w28.cell? ⟨gb102, 1, none⟩ = some (.int .i64 a1_1) := (blk_cell BK102.out 1).trans rfl; have hcz30_2 : w28.cell? ⟨gb102, 2, none⟩ = some (.string a1_2) := (blk_cell BK102.out 2).trans rfl; have hfz30_0 := blk_frozen BK102.out 0; have hfz30_1 := blk_frozen BK102.out 1; have hfz30_2 := blk_frozen BK102.out 2) | (go_at_call 12; (with_reducible refine (value_May.calls a1_0 a1_1 a1_2 false _ A13.out).mono ?_); rintro e w31 ⟨rfl, hb⟩; have n0_ := Aside0.mk (blk_below (g := gb101) (o := .cells #[.int .i64 a0_0, .int .i64 a0_1, .string a0_2] 23 (0, 0)) (by (with_reducible repeat (first | refine blk_drewN ?_ _ | refine blk_drew ?_ | refine blk_alloc ?_ _)); exact BK101.out) hb); have n1_ := Aside0.mk (blk_below (g := gb102) (o := .cells #[.int .i64 a1_0, .int .i64 a1_1, .string a1_2] 23 (0, 0)) (by (with_reducible repeat (first | refine blk_drewN ?_ _ | refine blk_drew ?_ | refine blk_alloc ?_ _)); exact BK102.out) hb); have n2_ := Aside0.mk (blk_below (g := gb103) (o := .cells #[.int .i64 a2_0, .int .i64 a2_1, .string a2_2] 23 (0, 0)) (by (with_reducible repeat (first | refine blk_drewN ?_ _ | refine blk_drew ?_ | refine blk_alloc ?_ _)); exact BK103.out) hb); have n3_ := Aside0.mk (below_step (by repeat (first | (with_reducible first | exact HB.out | apply below_alloc | apply pw_below_drewN | apply below_drew1 | refine below_set ?_ GE101.out | refine below_set ?_ GE102.out | refine below_set ?_ GE103.out) | exact HB.out)) hb); clear BK101; clear BK102; clear BK103; clear HB; have BK101 := n0_; have BK102 := n1_; have BK103 := n2_; have HB := n3_; clear n0_ n1_ n2_ n3_; (try clear hb); (try clear hb2); (try clear hk); (try clear hi)))
            go_meet
            case rel => exact ⟨_, (true), (by first | rfl | (simp; done) | (simp [*]; done)), H', ⟨by first | omega | exact Nat.le_refl _⟩, ⟨by (with_reducible repeat (first | refine blk_drewN ?_ _ | refine blk_drew ?_ | refine blk_alloc ?_ _)); exact BK101.out⟩, ⟨by (with_reducible repeat (first | refine blk_drewN ?_ _ | refine blk_drew ?_ | refine blk_alloc ?_ _)); exact BK102.out⟩, ⟨by (with_reducible repeat (first | refine blk_drewN ?_ _ | refine blk_drew ?_ | refine blk_alloc ?_ _)); exact BK103.out⟩, ⟨by repeat (first | (with_reducible first | exact HB.out | apply below_alloc | apply pw_below_drewN | apply below_drew1 | refine below_set ?_ GE101.out | refine below_set ?_ GE102.out | refine below_set ?_ GE103.out) | exact HB.out)⟩⟩
      · replace c12 := Bool.eq_false_iff.mpr c12
        subst c12
        have H1 : (rabbetlaw1_ValueOrder.j0 k true a0_0 a0_1 a0_2 a1_0 a1_1 a1_2 a2_0 a2_1 a2_2) = some r := by rw [if_neg (show ¬ (false = true) by decide)] at H; exact H
        clear H
        have H := H1
        clear H1
        as_aux_lemma =>
          have H' := Aside0.mk H
          clear H
          have hnb32 := NB101_102.out
          have hnc32 := NB102_101.out
          have hnb33 := NB101_103.out
          have hnc33 := NB103_101.out
          have hcz34_0 : w10.cell? ⟨gb101, 0, none⟩ = some (.int .i64 a0_0) := (blk_cell BK101.out 0).trans rfl
          have hcz34_1 : w10.cell? ⟨gb101, 1, none⟩ = some (.int .i64 a0_1) := (blk_cell BK101.out 1).trans rfl
          have hcz34_2 : w10.cell? ⟨gb101, 2, none⟩ = some (.string a0_2) := (blk_cell BK101.out 2).trans rfl
          have hfz34_0 := blk_frozen BK101.out 0
          have hfz34_1 := blk_frozen BK101.out 1
          have hfz34_2 := blk_frozen BK101.out 2
          go_wp2_with (first | ((with_reducible refine gate_callee (f := 12) rfl ?_); refine goesL_ (some 14) rfl rfl Tryd.func12 (by kernel_rfl) rfl #[.agg #[.int .i64 a0_0, .int .i64 a0_1, .string a0_2]] rfl (by (try simp only [List.map_toArray, List.map_cons, List.map_nil]); first | done | rfl | (simp only [List.length_drop, List.length_take]; rfl)) ?_; (with_reducible refine (value_May.calls a0_0 a0_1 a0_2 false _ A11.out).mono ?_); rintro e w35 ⟨rfl, hb⟩; refine ⟨_, rfl, ?_⟩; have n0_ := Aside0.mk (blk_below (g := gb101) (o := .cells #[.int .i64 a0_0, .int .i64 a0_1, .string a0_2] 23 (0, 0)) (by (with_reducible repeat (first | refine blk_drewN ?_ _ | refine blk_drew ?_ | refine blk_alloc ?_ _)); exact BK101.out) hb); have n1_ := Aside0.mk (blk_below (g := gb102) (o := .cells #[.int .i64 a1_0, .int .i64 a1_1, .string a1_2] 23 (0, 0)) (by (with_reducible repeat (first | refine blk_drewN ?_ _ | refine blk_drew ?_ | refine blk_alloc ?_ _)); exact BK102.out) hb); have n2_ := Aside0.mk (blk_below (g := gb103) (o := .cells #[.int .i64 a2_0, .int .i64 a2_1, .string a2_2] 23 (0, 0)) (by (with_reducible repeat (first | refine blk_drewN ?_ _ | refine blk_drew ?_ | refine blk_alloc ?_ _)); exact BK103.out) hb); have n3_ := Aside0.mk (below_step (by repeat (first | (with_reducible first | exact HB.out | apply below_alloc | apply pw_below_drewN | apply below_drew1 | refine below_set ?_ GE101.out | refine below_set ?_ GE102.out | refine below_set ?_ GE103.out) | exact HB.out)) hb); clear BK101; clear BK102; clear BK103; clear HB; have BK101 := n0_; have BK102 := n1_; have BK103 := n2_; have HB := n3_; clear n0_ n1_ n2_ n3_; (try clear hb); (try clear hb2); (try clear hk); (try clear hi)))
          go_meet
          case rel => exact ⟨_, (true), (by first | rfl | (simp; done) | (simp [*]; done)), H', ⟨by first | omega | exact Nat.le_refl _⟩, ⟨by (with_reducible repeat (first | refine blk_drewN ?_ _ | refine blk_drew ?_ | refine blk_alloc ?_ _)); exact BK101.out⟩, ⟨by (with_reducible repeat (first | refine blk_drewN ?_ _ | refine blk_drew ?_ | refine blk_alloc ?_ _)); exact BK102.out⟩, ⟨by (with_reducible repeat (first | refine blk_drewN ?_ _ | refine blk_drew ?_ | refine blk_alloc ?_ _)); exact BK103.out⟩, ⟨by repeat (first | (with_reducible first | exact HB.out | apply below_alloc | apply pw_below_drewN | apply below_drew1 | refine below_set ?_ GE101.out | refine below_set ?_ GE102.out | refine below_set ?_ GE103.out) | exact HB.out)⟩⟩
    case rest =>
      clear HC6
      try clear c1
      try clear c2
      try clear p2
      try clear c3
      try clear c4
      try clear c5
      try clear c8
      try clear c12
      try clear c14
      try clear c16
      try clear c17
      try clear c20
      try clear c25
      try clear c26
      try clear c29
      try clear c32
      try clear c33
      try clear hcz18_0
      try clear hcz18_1
      try clear hcz18_2
      try clear hcz21_0
      try clear hcz21_1
      try clear hcz21_2
      try clear hcz23_0
      try clear hcz23_1
      try clear hcz23_2
      try clear hcz27_0
      try clear hcz27_1
      try clear hcz27_2
      try clear hcz30_0
      try clear hcz30_1
      try clear hcz30_2
      try clear hcz34_0
      try clear hcz34_1
      try clear hcz34_2
      try clear hfz18_0
      try clear hfz18_1
      try clear hfz18_2
      try clear hfz21_0
      try clear hfz21_1
      try clear hfz21_2
      try clear hfz23_0
      try clear hfz23_1
      try clear hfz23_2
      try clear hfz27_0
      try clear hfz27_1
      try clear hfz27_2
      try clear hfz30_0
      try clear hfz30_1
      try clear hfz30_2
      try clear hfz34_0
      try clear hfz34_1
      try clear hfz34_2
      obtain ⟨kq, x25_5, rfl, HA, HJ5, BK101, BK102, BK103, HB⟩ := hcut
      cases kq with
      | zero => exact absurd HA.out (by simp [rabbetlaw1_ValueOrder.j0])
      | succ kj5 =>
        have H := HA.out
        clear HA
        simp only [rabbetlaw1_ValueOrder.j0] at H
        by_cases c36 : x25_5 = true
        · subst c36
          have H1 : (some true) = some r := by rw [if_pos rfl] at H; exact H
          clear H
          have H := H1
          clear H1
          as_aux_lemma =>
            obtain rfl := Option.some.inj H
            go_wp2
            go_ret
            exact ⟨by first | rfl | (simp [errW_none, errW_some] <;> rfl) | (simp [*, errW_none, errW_some] <;> rfl), by repeat (first | (with_reducible first | exact HB.out | apply below_alloc | apply pw_below_drewN | apply below_drew1 | refine below_set ?_ GE101.out | refine below_set ?_ GE102.out | refine below_set ?_ GE103.out) | exact HB.out)⟩
        · replace c36 := Bool.eq_false_iff.mpr c36
          subst c36
          have H1 : ((value_Compare.f kj5 a0_0 a0_1 a0_2 a1_0 a1_1 a1_2).bind fun t108 => ((value_Compare.f kj5 a1_0 a1_1 a1_2 a2_0 a2_1 a2_2).bind fun t109 => ((value_Compare.f kj5 a0_0 a0_1 a0_2 a2_0 a2_1 a2_2).bind fun t110 => ((value_Compare.f kj5 a1_0 a1_1 a1_2 a0_0 a0_1 a0_2).bind fun t111 => (if t108 = (wrap64 (-t111)) then ((value_Compare.f kj5 a0_0 a0_1 a0_2 a0_0 a0_1 a0_2).bind fun t112 => (if t112 = 0 then (if t108 < (-1) then (rabbetlaw1_ValueOrder.j1 kj5 t108 t109 t110 true a0_0 a0_1 a0_2 a1_0 a1_1 a1_2) else (rabbetlaw1_ValueOrder.j1 kj5 t108 t109 t110 (decide (t108 > 1)) a0_0 a0_1 a0_2 a1_0 a1_1 a1_2)) else (rabbetlaw1_ValueOrder.j1 kj5 t108 t109 t110 true a0_0 a0_1 a0_2 a1_0 a1_1 a1_2))) else (rabbetlaw1_ValueOrder.j1 kj5 t108 t109 t110 true a0_0 a0_1 a0_2 a1_0 a1_1 a1_2)))))) = some r := by rw [if_neg (show ¬ (false = true) by decide)] at H; exact H
          clear H
          have H := H1
          clear H1
          replace H := Option.bind_eq_some_iff.mp H
          obtain ⟨t108, A370, H⟩ := H
          replace H : ((value_Compare.f kj5 a1_0 a1_1 a1_2 a2_0 a2_1 a2_2).bind fun t109 => ((value_Compare.f kj5 a0_0 a0_1 a0_2 a2_0 a2_1 a2_2).bind fun t110 => ((value_Compare.f kj5 a1_0 a1_1 a1_2 a0_0 a0_1 a0_2).bind fun t111 => (if t108 = (wrap64 (-t111)) then ((value_Compare.f kj5 a0_0 a0_1 a0_2 a0_0 a0_1 a0_2).bind fun t112 => (if t112 = 0 then (if t108 < (-1) then (rabbetlaw1_ValueOrder.j1 kj5 t108 t109 t110 true a0_0 a0_1 a0_2 a1_0 a1_1 a1_2) else (rabbetlaw1_ValueOrder.j1 kj5 t108 t109 t110 (decide (t108 > 1)) a0_0 a0_1 a0_2 a1_0 a1_1 a1_2)) else (rabbetlaw1_ValueOrder.j1 kj5 t108 t109 t110 true a0_0 a0_1 a0_2 a1_0 a1_1 a1_2))) else (rabbetlaw1_ValueOrder.j1 kj5 t108 t109 t110 true a0_0 a0_1 a0_2 a1_0 a1_1 a1_2))))) = some r := H
          have A37 := Aside0.mk A370
          clear A370
          replace H := Option.bind_eq_some_iff.mp H
          obtain ⟨t109, A380, H⟩ := H
          replace H : ((value_Compare.f kj5 a0_0 a0_1 a0_2 a2_0 a2_1 a2_2).bind fun t110 => ((value_Compare.f kj5 a1_0 a1_1 a1_2 a0_0 a0_1 a0_2).bind fun t111 => (if t108 = (wrap64 (-t111)) then ((value_Compare.f kj5 a0_0 a0_1 a0_2 a0_0 a0_1 a0_2).bind fun t112 => (if t112 = 0 then (if t108 < (-1) then (rabbetlaw1_ValueOrder.j1 kj5 t108 t109 t110 true a0_0 a0_1 a0_2 a1_0 a1_1 a1_2) else (rabbetlaw1_ValueOrder.j1 kj5 t108 t109 t110 (decide (t108 > 1)) a0_0 a0_1 a0_2 a1_0 a1_1 a1_2)) else (rabbetlaw1_ValueOrder.j1 kj5 t108 t109 t110 true a0_0 a0_1 a0_2 a1_0 a1_1 a1_2))) else (rabbetlaw1_ValueOrder.j1 kj5 t108 t109 t110 true a0_0 a0_1 a0_2 a1_0 a1_1 a1_2)))) = some r := H
          have A38 := Aside0.mk A380
          clear A380
          replace H := Option.bind_eq_some_iff.mp H
          obtain ⟨t110, A390, H⟩ := H
          replace H : ((value_Compare.f kj5 a1_0 a1_1 a1_2 a0_0 a0_1 a0_2).bind fun t111 => (if t108 = (wrap64 (-t111)) then ((value_Compare.f kj5 a0_0 a0_1 a0_2 a0_0 a0_1 a0_2).bind fun t112 => (if t112 = 0 then (if t108 < (-1) then (rabbetlaw1_ValueOrder.j1 kj5 t108 t109 t110 true a0_0 a0_1 a0_2 a1_0 a1_1 a1_2) else (rabbetlaw1_ValueOrder.j1 kj5 t108 t109 t110 (decide (t108 > 1)) a0_0 a0_1 a0_2 a1_0 a1_1 a1_2)) else (rabbetlaw1_ValueOrder.j1 kj5 t108 t109 t110 true a0_0 a0_1 a0_2 a1_0 a1_1 a1_2))) else (rabbetlaw1_ValueOrder.j1 kj5 t108 t109 t110 true a0_0 a0_1 a0_2 a1_0 a1_1 a1_2))) = some r := H
          have A39 := Aside0.mk A390
          clear A390
          have HC40 := Aside0.mk H
          clear H
          try go_wp2
          have n0_ := Aside0.mk (blk_drew BK101.out)
          have n1_ := Aside0.mk (blk_drew BK102.out)
          have n2_ := Aside0.mk (blk_drew BK103.out)
          have n3_ := Aside0.mk (below_drew1 HB.out)
          clear BK101
          clear BK102
          clear BK103
          clear HB
          have BK101 := n0_
          have BK102 := n1_
          have BK103 := n2_
          have HB := n3_
          clear n0_ n1_ n2_ n3_
          refine start_ (n := 12) (S := fun w' => w'.cell? ⟨gb101, 0, none⟩ = some (.int .i64 a0_0) ∧ w'.cell? ⟨gb101, 1, none⟩ = some (.int .i64 a0_1) ∧ w'.cell? ⟨gb101, 2, none⟩ = some (.string a0_2) ∧ w'.cell? ⟨gb102, 0, none⟩ = some (.int .i64 a1_0) ∧ w'.cell? ⟨gb102, 1, none⟩ = some (.int .i64 a1_1) ∧ w'.cell? ⟨gb102, 2, none⟩ = some (.string a1_2) ∧ w'.cell? ⟨gb103, 0, none⟩ = some (.int .i64 a2_0) ∧ w'.cell? ⟨gb103, 1, none⟩ = some (.int .i64 a2_1) ∧ w'.cell? ⟨gb103, 2, none⟩ = some (.string a2_2)) (ds := []) #[false, false, false, false, false, false, false, false, false, false, false, false] (by kernel_rfl) rfl rfl ⟨(blk_cell BK101.out 0).trans rfl, (blk_cell BK101.out 1).trans rfl, (blk_cell BK101.out 2).trans rfl, (blk_cell BK102.out 0).trans rfl, (blk_cell BK102.out 1).trans rfl, (blk_cell BK102.out 2).trans rfl, (blk_cell BK103.out 0).trans rfl, (blk_cell BK103.out 1).trans rfl, (blk_cell BK103.out 2).trans rfl⟩ (fun hHeld => ?_); refine with_tabW rabbetlaw1_ValueOrder.tab5 rabbetlaw1_ValueOrder.bits5 (fun HT_ HW_ => ?_)
          generalize wc.drew = w41 at BK101 BK102 BK103 HB hHeld ⊢
          refine take_ (i := 0) (N := some 26) (v := ?_) (a' := ?_) #[true, false, false, false, false, false, false, false, false, false, false, false] rfl rfl (take_ofW HT_.out HW_.out (by kernel_rfl)) (fun _ _ _ h => h) (Or.inl ⟨by rfl, ?_⟩) hHeld ?_ ?_
          rotate_left
          · rintro w' ⟨s0, s1, s2, s3, s4, s5, s6, s7, s8⟩
            go_simp
            with_reducible rfl
          rotate_left
          · simp only [Act.put, List.setIfInBounds_toArray, List.set_cons_zero, List.set_cons_succ, i64_w, i32_w]
            rfl
          refine take_ (i := 1) (N := some 27) (v := ?_) (a' := ?_) #[true, true, false, false, false, false, false, false, false, false, false, false] rfl rfl (take_ofW HT_.out HW_.out (by kernel_rfl)) (fun _ _ _ h => h) (Or.inl ⟨by rfl, ?_⟩) hHeld ?_ ?_
          rotate_left
          · rintro w' ⟨s0, s1, s2, s3, s4, s5, s6, s7, s8⟩
            go_simp
            with_reducible rfl
          rotate_left
          · simp only [Act.put, List.setIfInBounds_toArray, List.set_cons_zero, List.set_cons_succ, i64_w, i32_w]
            rfl
          refine take_ (i := 3) (N := some 29) (v := ?_) (a' := ?_) #[true, true, false, true, false, false, false, false, false, false, false, false] rfl rfl (take_ofW HT_.out HW_.out (by kernel_rfl)) (fun _ _ _ h => h) (Or.inl ⟨by rfl, ?_⟩) hHeld ?_ ?_
          rotate_left
          · rintro w' ⟨s0, s1, s2, s3, s4, s5, s6, s7, s8⟩
            go_simp
            with_reducible rfl
          rotate_left
          · simp only [Act.put, List.setIfInBounds_toArray, List.set_cons_zero, List.set_cons_succ, i64_w, i32_w]
            rfl
          refine take_ (i := 4) (N := some 30) (v := ?_) (a' := ?_) #[true, true, false, true, true, false, false, false, false, false, false, false] rfl rfl (take_ofW HT_.out HW_.out (by kernel_rfl)) (fun _ _ _ h => h) (Or.inl ⟨by rfl, ?_⟩) hHeld ?_ ?_
          rotate_left
          · rintro w' ⟨s0, s1, s2, s3, s4, s5, s6, s7, s8⟩
            go_simp
            with_reducible rfl
          rotate_left
          · simp only [Act.put, List.setIfInBounds_toArray, List.set_cons_zero, List.set_cons_succ, i64_w, i32_w]
            rfl
          refine take_ (i := 6) (N := some 32) (v := ?_) (a' := ?_) #[true, true, false, true, true, false, true, false, false, false, false, false] rfl rfl (take_ofW HT_.out HW_.out (by kernel_rfl)) (fun _ _ _ h => h) (Or.inl ⟨by rfl, ?_⟩) hHeld ?_ ?_
          rotate_left
          · rintro w' ⟨s0, s1, s2, s3, s4, s5, s6, s7, s8⟩
            go_simp
            with_reducible rfl
          rotate_left
          · simp only [Act.put, List.setIfInBounds_toArray, List.set_cons_zero, List.set_cons_succ, i64_w, i32_w]
            rfl
          refine take_ (i := 7) (N := some 33) (v := ?_) (a' := ?_) #[true, true, false, true, true, false, true, true, false, false, false, false] rfl rfl (take_ofW HT_.out HW_.out (by kernel_rfl)) (fun _ _ _ h => h) (Or.inl ⟨by rfl, ?_⟩) hHeld ?_ ?_
          rotate_left
          · rintro w' ⟨s0, s1, s2, s3, s4, s5, s6, s7, s8⟩
            go_simp
            with_reducible rfl
          rotate_left
          · simp only [Act.put, List.setIfInBounds_toArray, List.set_cons_zero, List.set_cons_succ, i64_w, i32_w]
            rfl
          refine one_ (i := 2) (N := some 28) #[true, true, true, true, true, false, true, true, false, false, false, false] rfl rfl (one_of HT_.out (by kernel_rfl)) (by decide) (fun K hK => ?_)
          refine goes_ Tryd.func19 (by kernel_rfl) rfl #[.agg #[.int .i64 a0_0, .int .i64 a0_1, .string a0_2], .agg #[.int .i64 a1_0, .int .i64 a1_1, .string a1_2]] (by rfl) rfl rfl (by (try simp only [List.map_toArray, List.map_cons, List.map_nil]); first | done | rfl | (simp only [List.length_drop, List.length_take]; rfl)) ?_
          with_reducible refine (value_Compare.calls kj5 a0_0 a0_1 a0_2 a1_0 a1_1 a1_2 t108 _ A37.out).mono ?_
          rintro e w42 ⟨rfl, hb⟩
          refine ⟨_, rfl, ?_⟩
          have n0_ := Aside0.mk (blk_below (g := gb101) (o := .cells #[.int .i64 a0_0, .int .i64 a0_1, .string a0_2] 23 (0, 0)) (by (with_reducible repeat (first | refine blk_drewN ?_ _ | refine blk_drew ?_ | refine blk_alloc ?_ _)); exact BK101.out) hb)
          have n1_ := Aside0.mk (blk_below (g := gb102) (o := .cells #[.int .i64 a1_0, .int .i64 a1_1, .string a1_2] 23 (0, 0)) (by (with_reducible repeat (first | refine blk_drewN ?_ _ | refine blk_drew ?_ | refine blk_alloc ?_ _)); exact BK102.out) hb)
          have n2_ := Aside0.mk (blk_below (g := gb103) (o := .cells #[.int .i64 a2_0, .int .i64 a2_1, .string a2_2] 23 (0, 0)) (by (with_reducible repeat (first | refine blk_drewN ?_ _ | refine blk_drew ?_ | refine blk_alloc ?_ _)); exact BK103.out) hb)
          have n3_ := Aside0.mk (below_step (by repeat (first | (with_reducible first | exact HB.out | apply below_alloc | apply pw_below_drewN | apply below_drew1 | refine below_set ?_ GE101.out | refine below_set ?_ GE102.out | refine below_set ?_ GE103.out) | exact HB.out)) hb)
          clear BK101
          clear BK102
          clear BK103
          clear HB
          have BK101 := n0_
          have BK102 := n1_
          have BK103 := n2_
          have HB := n3_
          clear n0_ n1_ n2_ n3_
          (try clear hb)
          (try clear hb2)
          (try clear hk)
          (try clear hi)
          refine hK.out _ _ ⟨(blk_cell BK101.out 0).trans rfl, (blk_cell BK101.out 1).trans rfl, (blk_cell BK101.out 2).trans rfl, (blk_cell BK102.out 0).trans rfl, (blk_cell BK102.out 1).trans rfl, (blk_cell BK102.out 2).trans rfl, (blk_cell BK103.out 0).trans rfl, (blk_cell BK103.out 1).trans rfl, (blk_cell BK103.out 2).trans rfl⟩ (fun hHeld => ?_)
          clear hK K
          refine norm_ (a' := ?_) ?_ ?_
          rotate_left
          · show Act.put _ (some 28) _ = _
            simp only [Act.put, List.setIfInBounds_toArray, List.set_cons_zero, List.set_cons_succ, i64_w, i32_w]
            rfl
          refine one_ (i := 5) (N := some 31) #[true, true, true, true, true, true, true, true, false, false, false, false] rfl rfl (one_of HT_.out (by kernel_rfl)) (by decide) (fun K hK => ?_)
          refine goes_ Tryd.func19 (by kernel_rfl) rfl #[.agg #[.int .i64 a1_0, .int .i64 a1_1, .string a1_2], .agg #[.int .i64 a2_0, .int .i64 a2_1, .string a2_2]] (by rfl) rfl rfl (by (try simp only [List.map_toArray, List.map_cons, List.map_nil]); first | done | rfl | (simp only [List.length_drop, List.length_take]; rfl)) ?_
          with_reducible refine (value_Compare.calls kj5 a1_0 a1_1 a1_2 a2_0 a2_1 a2_2 t109 _ A38.out).mono ?_
          rintro e w43 ⟨rfl, hb⟩
          refine ⟨_, rfl, ?_⟩
          have n0_ := Aside0.mk (blk_below (g := gb101) (o := .cells #[.int .i64 a0_0, .int .i64 a0_1, .string a0_2] 23 (0, 0)) (by (with_reducible repeat (first | refine blk_drewN ?_ _ | refine blk_drew ?_ | refine blk_alloc ?_ _)); exact BK101.out) hb)
          have n1_ := Aside0.mk (blk_below (g := gb102) (o := .cells #[.int .i64 a1_0, .int .i64 a1_1, .string a1_2] 23 (0, 0)) (by (with_reducible repeat (first | refine blk_drewN ?_ _ | refine blk_drew ?_ | refine blk_alloc ?_ _)); exact BK102.out) hb)
          have n2_ := Aside0.mk (blk_below (g := gb103) (o := .cells #[.int .i64 a2_0, .int .i64 a2_1, .string a2_2] 23 (0, 0)) (by (with_reducible repeat (first | refine blk_drewN ?_ _ | refine blk_drew ?_ | refine blk_alloc ?_ _)); exact BK103.out) hb)
          have n3_ := Aside0.mk (below_step (by repeat (first | (with_reducible first | exact HB.out | apply below_alloc | apply pw_below_drewN | apply below_drew1 | refine below_set ?_ GE101.out | refine below_set ?_ GE102.out | refine below_set ?_ GE103.out) | exact HB.out)) hb)
          clear BK101
          clear BK102
          clear BK103
          clear HB
          have BK101 := n0_
          have BK102 := n1_
          have BK103 := n2_
          have HB := n3_
          clear n0_ n1_ n2_ n3_
          (try clear hb)
          (try clear hb2)
          (try clear hk)
          (try clear hi)
          refine hK.out _ _ ⟨(blk_cell BK101.out 0).trans rfl, (blk_cell BK101.out 1).trans rfl, (blk_cell BK101.out 2).trans rfl, (blk_cell BK102.out 0).trans rfl, (blk_cell BK102.out 1).trans rfl, (blk_cell BK102.out 2).trans rfl, (blk_cell BK103.out 0).trans rfl, (blk_cell BK103.out 1).trans rfl, (blk_cell BK103.out 2).trans rfl⟩ (fun hHeld => ?_)
          clear hK K
          refine norm_ (a' := ?_) ?_ ?_
          rotate_left
          · show Act.put _ (some 31) _ = _
            simp only [Act.put, List.setIfInBounds_toArray, List.set_cons_zero, List.set_cons_succ, i64_w, i32_w]
            rfl
          refine one_ (i := 8) (N := some 34) #[true, true, true, true, true, true, true, true, true, false, false, false] rfl rfl (one_of HT_.out (by kernel_rfl)) (by decide) (fun K hK => ?_)
          refine goes_ Tryd.func19 (by kernel_rfl) rfl #[.agg #[.int .i64 a0_0, .int .i64 a0_1, .string a0_2], .agg #[.int .i64 a2_0, .int .i64 a2_1, .string a2_2]] (by rfl) rfl rfl (by (try simp only [List.map_toArray, List.map_cons, List.map_nil]); first | done | rfl | (simp only [List.length_drop, List.length_take]; rfl)) ?_
          with_reducible refine (value_Compare.calls kj5 a0_0 a0_1 a0_2 a2_0 a2_1 a2_2 t110 _ A39.out).mono ?_
          rintro e w44 ⟨rfl, hb⟩
          refine ⟨_, rfl, ?_⟩
          have n0_ := Aside0.mk (blk_below (g := gb101) (o := .cells #[.int .i64 a0_0, .int .i64 a0_1, .string a0_2] 23 (0, 0)) (by (with_reducible repeat (first | refine blk_drewN ?_ _ | refine blk_drew ?_ | refine blk_alloc ?_ _)); exact BK101.out) hb)
          have n1_ := Aside0.mk (blk_below (g := gb102) (o := .cells #[.int .i64 a1_0, .int .i64 a1_1, .string a1_2] 23 (0, 0)) (by (with_reducible repeat (first | refine blk_drewN ?_ _ | refine blk_drew ?_ | refine blk_alloc ?_ _)); exact BK102.out) hb)
          have n2_ := Aside0.mk (blk_below (g := gb103) (o := .cells #[.int .i64 a2_0, .int .i64 a2_1, .string a2_2] 23 (0, 0)) (by (with_reducible repeat (first | refine blk_drewN ?_ _ | refine blk_drew ?_ | refine blk_alloc ?_ _)); exact BK103.out) hb)
          have n3_ := Aside0.mk (below_step (by repeat (first | (with_reducible first | exact HB.out | apply below_alloc | apply pw_below_drewN | apply below_drew1 | refine below_set ?_ GE101.out | refine below_set ?_ GE102.out | refine below_set ?_ GE103.out) | exact HB.out)) hb)
          clear BK101
          clear BK102
          clear BK103
          clear HB
          have BK101 := n0_
          have BK102 := n1_
          have BK103 := n2_
          have HB := n3_
          clear n0_ n1_ n2_ n3_
          (try clear hb)
          (try clear hb2)
          (try clear hk)
          (try clear hi)
          refine hK.out _ _ ⟨(blk_cell BK101.out 0).trans rfl, (blk_cell BK101.out 1).trans rfl, (blk_cell BK101.out 2).trans rfl, (blk_cell BK102.out 0).trans rfl, (blk_cell BK102.out 1).trans rfl, (blk_cell BK102.out 2).trans rfl, (blk_cell BK103.out 0).trans rfl, (blk_cell BK103.out 1).trans rfl, (blk_cell BK103.out 2).trans rfl⟩ (fun hHeld => ?_)
          clear hK K
          refine norm_ (a' := ?_) ?_ ?_
          rotate_left
          · show Act.put _ (some 34) _ = _
            simp only [Act.put, List.setIfInBounds_toArray, List.set_cons_zero, List.set_cons_succ, i64_w, i32_w]
            rfl
          refine pure_ (i := 9) (N := some 7) (v := ?_) (a' := ?_) #[true, true, true, true, true, true, true, true, true, true, false, false] rfl rfl (any_of HT_.out (by kernel_rfl)) (fun _ _ _ h => h) (Or.inl ⟨by rfl, ?_⟩) ?_ ?_
          rotate_left
          · intro w'
            go_simp
            with_reducible rfl
          rotate_left
          · simp only [Act.put, List.setIfInBounds_toArray, List.set_cons_zero, List.set_cons_succ, i64_w, i32_w]
            rfl
          refine pure_ (i := 10) (N := some 8) (v := ?_) (a' := ?_) #[true, true, true, true, true, true, true, true, true, true, true, false] rfl rfl (any_of HT_.out (by kernel_rfl)) (fun _ _ _ h => h) (Or.inl ⟨by rfl, ?_⟩) ?_ ?_
          rotate_left
          · intro w'
            go_simp
            with_reducible rfl
          rotate_left
          · simp only [Act.put, List.setIfInBounds_toArray, List.set_cons_zero, List.set_cons_succ, i64_w, i32_w]
            rfl
          refine pure_ (i := 11) (N := some 9) (v := ?_) (a' := ?_) #[true, true, true, true, true, true, true, true, true, true, true, true] rfl rfl (any_of HT_.out (by kernel_rfl)) (fun _ _ _ h => h) (Or.inl ⟨by rfl, ?_⟩) ?_ ?_
          rotate_left
          · intro w'
            go_simp
            with_reducible rfl
          rotate_left
          · simp only [Act.put, List.setIfInBounds_toArray, List.set_cons_zero, List.set_cons_succ, i64_w, i32_w]
            rfl
          refine done_ (done_of HT_.out (by kernel_rfl)) ?_
          go_upto_region 6 with (fail)
          go_cut [54] (fun v54 wc => ∃ (kq : Nat) (x54_39 : Bool), v54 = .bool x54_39 ∧ Aside0 (rabbetlaw1_ValueOrder.j1 kq t108 t109 t110 x54_39 a0_0 a0_1 a0_2 a1_0 a1_1 a1_2 = some r) ∧ Aside0 (kq ≤ kj5) ∧ Aside0 (wc.heap[gb101]? = some (.cells #[.int .i64 a0_0, .int .i64 a0_1, .string a0_2] 23 (0, 0))) ∧ Aside0 (wc.heap[gb102]? = some (.cells #[.int .i64 a1_0, .int .i64 a1_1, .string a1_2] 23 (0, 0))) ∧ Aside0 (wc.heap[gb103]? = some (.cells #[.int .i64 a2_0, .int .i64 a2_1, .string a2_2] 23 (0, 0))) ∧ Aside0 (Below w.heap.size w wc))
          case first =>
            have H := HC40.out
            clear HC40
            replace H := Option.bind_eq_some_iff.mp H
            obtain ⟨t111, A450, H⟩ := H
            replace H : (if t108 = (wrap64 (-t111)) then ((value_Compare.f kj5 a0_0 a0_1 a0_2 a0_0 a0_1 a0_2).bind fun t112 => (if t112 = 0 then (if t108 < (-1) then (rabbetlaw1_ValueOrder.j1 kj5 t108 t109 t110 true a0_0 a0_1 a0_2 a1_0 a1_1 a1_2) else (rabbetlaw1_ValueOrder.j1 kj5 t108 t109 t110 (decide (t108 > 1)) a0_0 a0_1 a0_2 a1_0 a1_1 a1_2)) else (rabbetlaw1_ValueOrder.j1 kj5 t108 t109 t110 true a0_0 a0_1 a0_2 a1_0 a1_1 a1_2))) else (rabbetlaw1_ValueOrder.j1 kj5 t108 t109 t110 true a0_0 a0_1 a0_2 a1_0 a1_1 a1_2)) = some r := H
            have A45 := Aside0.mk A450
            clear A450
            by_cases c46 : t108 = (wrap64 (-t111))
            · rw [if_pos c46] at H
              have c46b0 : (t108 == (wrap64 (-t111))) = true := beq_iff_eq.mpr c46
              have c46b1 : (t108 != (wrap64 (-t111))) = false := bne_eq_false_iff_eq.mpr c46
              clear c46
              (first | rw [c46b0] | (simp only [i64_w, i32_w]; rw [c46b0]) | skip)
              replace H := Option.bind_eq_some_iff.mp H
              obtain ⟨t112, A470, H⟩ := H
              replace H : (if t112 = 0 then (if t108 < (-1) then (rabbetlaw1_ValueOrder.j1 kj5 t108 t109 t110 true a0_0 a0_1 a0_2 a1_0 a1_1 a1_2) else (rabbetlaw1_ValueOrder.j1 kj5 t108 t109 t110 (decide (t108 > 1)) a0_0 a0_1 a0_2 a1_0 a1_1 a1_2)) else (rabbetlaw1_ValueOrder.j1 kj5 t108 t109 t110 true a0_0 a0_1 a0_2 a1_0 a1_1 a1_2)) = some r := H
              have A47 := Aside0.mk A470
              clear A470
              by_cases c48 : t112 = 0
              · rw [if_pos c48] at H
                have c48b0 : (t112 == 0) = true := beq_iff_eq.mpr c48
                have c48b1 : (t112 != 0) = false := bne_eq_false_iff_eq.mpr c48
                clear c48
                by_cases c49 : t108 < (-1)
                · rw [if_pos c49] at H
                  have c49b0 : decide (t108 < (-1)) = true := decide_eq_true c49
                  clear c49
                  as_aux_lemma =>
                    have H' := Aside0.mk H
                    clear H
                    have hnb50 := NB102_101.out
                    have hnc50 := NB101_102.out
                    have hnb51 := NB102_103.out
                    have hnc51 := NB103_102.out
                    have hcz52_0 : w44.cell? ⟨gb102, 0, none⟩ = some (.int .i64 a1_0) := (blk_cell BK102.out 0).trans rfl
                    have hcz52_1 : w44.cell? ⟨gb102, 1, none⟩ = some (.int .i64 a1_1) := (blk_cell BK102.out 1).trans rfl
                    have hcz52_2 : w44.cell? ⟨gb102, 2, none⟩ = some (.string a1_2) := (blk_cell BK102.out 2).trans rfl
                    have hfz52_0 := blk_frozen BK102.out 0
                    have hfz52_1 := blk_frozen BK102.out 1
                    have hfz52_2 := blk_frozen BK102.out 2
                    have hnb53 := NB101_103.out
                    have hnc53 := NB103_101.out
                    have hcz54_0 : w44.cell? ⟨gb101, 0, none⟩ = some (.int .i64 a0_0) := (blk_cell BK101.out 0).trans rfl
                    have hcz54_1 : w44.cell? ⟨gb101, 1, none⟩ = some (.int .i64 a0_1) := (blk_cell BK101.out 1).trans rfl
                    have hcz54_2 : w44.cell? ⟨gb101, 2, none⟩ = some (.string a0_2) := (blk_cell BK101.out 2).trans rfl
                    have hfz54_0 := blk_frozen BK101.out 0
                    have hfz54_1 := blk_frozen BK101.out 1
                    have hfz54_2 := blk_frozen BK101.out 2
                    go_wp2_with (first | ((with_reducible refine gate_callee (f := 19) rfl ?_); refine goesL_ (some 38) rfl rfl Tryd.func19 (by kernel_rfl) rfl #[.agg #[.int .i64 a1_0, .int .i64 a1_1, .string a1_2], .agg #[.int .i64 a0_0, .int .i64 a0_1, .string a0_2]] rfl (by (try simp only [List.map_toArray, List.map_cons, List.map_nil]); first | done | rfl | (simp only [List.length_drop, List.length_take]; rfl)) ?_; (with_reducible refine (value_Compare.calls kj5 a1_0 a1_1 a1_2 a0_0 a0_1 a0_2 t111 _ A45.out).mono ?_); rintro e w55 ⟨rfl, hb⟩; refine ⟨_, rfl, ?_⟩; have n0_ := Aside0.mk (blk_below (g := gb101) (o := .cells #[.int .i64 a0_0, .int .i64 a0_1, .string a0_2] 23 (0, 0)) (by (with_reducible repeat (first | refine blk_drewN ?_ _ | refine blk_drew ?_ | refine blk_alloc ?_ _)); exact BK101.out) hb); have n1_ := Aside0.mk (blk_below (g := gb102) (o := .cells #[.int .i64 a1_0, .int .i64 a1_1, .string a1_2] 23 (0, 0)) (by (with_reducible repeat (first | refine blk_drewN ?_ _ | refine blk_drew ?_ | refine blk_alloc ?_ _)); exact BK102.out) hb); have n2_ := Aside0.mk (blk_below (g := gb103) (o := .cells #[.int .i64 a2_0, .int .i64 a2_1, .string a2_2] 23 (0, 0)) (by (with_reducible repeat (first | refine blk_drewN ?_ _ | refine blk_drew ?_ | refine blk_alloc ?_ _)); exact BK103.out) hb); have n3_ := Aside0.mk (below_step (by repeat (first | (with_reducible first | exact HB.out | apply below_alloc | apply pw_below_drewN | apply below_drew1 | refine below_set ?_ GE101.out | refine below_set ?_ GE102.out | refine below_set ?_ GE103.out) | exact HB.out)) hb); clear BK101; clear BK102; clear BK103; clear HB; have BK101 := n0_; have BK102 := n1_; have BK103 := n2_; have HB := n3_; clear n0_ n1_ n2_ n3_; (try clear hb); (try clear hb2); (try clear hk); (try clear hi); have hcz56_0 : w55.cell? ⟨gb101, 0, none⟩ = some (.int .i64 a0_0) := (blk_cell BK101.out 0).trans rfl; have hcz56_1 : w55.cell? ⟨gb101, 1, none⟩ = some (.int .i64 a0_1) := (blk_cell BK101.out 1).trans rfl; have hcz56_2 : w55.cell? ⟨gb101, 2, none⟩ = some (.string a0_2) := (blk_cell BK101.out 2).trans rfl; have hfz56_0 := blk_frozen BK101.out 0; have hfz56_1 := blk_frozen BK101.out 1; have hfz56_2 := blk_frozen BK101.out 2) | (go_at_call 19; (with_reducible refine (value_Compare.calls kj5 a0_0 a0_1 a0_2 a0_0 a0_1 a0_2 t112 _ A47.out).mono ?_); rintro e w57 ⟨rfl, hb⟩; have n0_ := Aside0.mk (blk_below (g := gb101) (o := .cells #[.int .i64 a0_0, .int .i64 a0_1, .string a0_2] 23 (0, 0)) (by (with_reducible repeat (first | refine blk_drewN ?_ _ | refine blk_drew ?_ | refine blk_alloc ?_ _)); exact BK101.out) hb); have n1_ := Aside0.mk (blk_below (g := gb102) (o := .cells #[.int .i64 a1_0, .int .i64 a1_1, .string a1_2] 23 (0, 0)) (by (with_reducible repeat (first | refine blk_drewN ?_ _ | refine blk_drew ?_ | refine blk_alloc ?_ _)); exact BK102.out) hb); have n2_ := Aside0.mk (blk_below (g := gb103) (o := .cells #[.int .i64 a2_0, .int .i64 a2_1, .string a2_2] 23 (0, 0)) (by (with_reducible repeat (first | refine blk_drewN ?_ _ | refine blk_drew ?_ | refine blk_alloc ?_ _)); exact BK103.out) hb); have n3_ := Aside0.mk (below_step (by repeat (first | (with_reducible first | exact HB.out | apply below_alloc | apply pw_below_drewN | apply below_drew1 | refine below_set ?_ GE101.out | refine below_set ?_ GE102.out | refine below_set ?_ GE103.out) | exact HB.out)) hb); clear BK101; clear BK102; clear BK103; clear HB; have BK101 := n0_; have BK102 := n1_; have BK103 := n2_; have HB := n3_; clear n0_ n1_ n2_ n3_; (try clear hb); (try clear hb2); (try clear hk); (try clear hi)))
                    go_meet
                    case rel => exact ⟨_, (true), (by first | rfl | (simp; done) | (simp [*]; done)), H', ⟨by have := HJ5.out; first | omega | exact Nat.le_refl _⟩, ⟨by (with_reducible repeat (first | refine blk_drewN ?_ _ | refine blk_drew ?_ | refine blk_alloc ?_ _)); exact BK101.out⟩, ⟨by (with_reducible repeat (first | refine blk_drewN ?_ _ | refine blk_drew ?_ | refine blk_alloc ?_ _)); exact BK102.out⟩, ⟨by (with_reducible repeat (first | refine blk_drewN ?_ _ | refine blk_drew ?_ | refine blk_alloc ?_ _)); exact BK103.out⟩, ⟨by repeat (first | (with_reducible first | exact HB.out | apply below_alloc | apply pw_below_drewN | apply below_drew1 | refine below_set ?_ GE101.out | refine below_set ?_ GE102.out | refine below_set ?_ GE103.out) | exact HB.out)⟩⟩
                · rw [if_neg c49] at H
                  have c49b0 : decide (t108 < (-1)) = false := decide_eq_false c49
                  clear c49
                  as_aux_lemma =>
                    have H' := Aside0.mk H
                    clear H
                    have hnb58 := NB102_101.out
                    have hnc58 := NB101_102.out
                    have hnb59 := NB102_103.out
                    have hnc59 := NB103_102.out
                    have hcz60_0 : w44.cell? ⟨gb102, 0, none⟩ = some (.int .i64 a1_0) := (blk_cell BK102.out 0).trans rfl
                    have hcz60_1 : w44.cell? ⟨gb102, 1, none⟩ = some (.int .i64 a1_1) := (blk_cell BK102.out 1).trans rfl
                    have hcz60_2 : w44.cell? ⟨gb102, 2, none⟩ = some (.string a1_2) := (blk_cell BK102.out 2).trans rfl
                    have hfz60_0 := blk_frozen BK102.out 0
                    have hfz60_1 := blk_frozen BK102.out 1
                    have hfz60_2 := blk_frozen BK102.out 2
                    have hnb61 := NB101_103.out
                    have hnc61 := NB103_101.out
                    have hcz62_0 : w44.cell? ⟨gb101, 0, none⟩ = some (.int .i64 a0_0) := (blk_cell BK101.out 0).trans rfl
                    have hcz62_1 : w44.cell? ⟨gb101, 1, none⟩ = some (.int .i64 a0_1) := (blk_cell BK101.out 1).trans rfl
                    have hcz62_2 : w44.cell? ⟨gb101, 2, none⟩ = some (.string a0_2) := (blk_cell BK101.out 2).trans rfl
                    have hfz62_0 := blk_frozen BK101.out 0
                    have hfz62_1 := blk_frozen BK101.out 1
                    have hfz62_2 := blk_frozen BK101.out 2
                    go_wp2_with (first | ((with_reducible refine gate_callee (f := 19) rfl ?_); refine goesL_ (some 38) rfl rfl Tryd.func19 (by kernel_rfl) rfl #[.agg #[.int .i64 a1_0, .int .i64 a1_1, .string a1_2], .agg #[.int .i64 a0_0, .int .i64 a0_1, .string a0_2]] rfl (by (try simp only [List.map_toArray, List.map_cons, List.map_nil]); first | done | rfl | (simp only [List.length_drop, List.length_take]; rfl)) ?_; (with_reducible refine (value_Compare.calls kj5 a1_0 a1_1 a1_2 a0_0 a0_1 a0_2 t111 _ A45.out).mono ?_); rintro e w63 ⟨rfl, hb⟩; refine ⟨_, rfl, ?_⟩; have n0_ := Aside0.mk (blk_below (g := gb101) (o := .cells #[.int .i64 a0_0, .int .i64 a0_1, .string a0_2] 23 (0, 0)) (by (with_reducible repeat (first | refine blk_drewN ?_ _ | refine blk_drew ?_ | refine blk_alloc ?_ _)); exact BK101.out) hb); have n1_ := Aside0.mk (blk_below (g := gb102) (o := .cells #[.int .i64 a1_0, .int .i64 a1_1, .string a1_2] 23 (0, 0)) (by (with_reducible repeat (first | refine blk_drewN ?_ _ | refine blk_drew ?_ | refine blk_alloc ?_ _)); exact BK102.out) hb); have n2_ := Aside0.mk (blk_below (g := gb103) (o := .cells #[.int .i64 a2_0, .int .i64 a2_1, .string a2_2] 23 (0, 0)) (by (with_reducible repeat (first | refine blk_drewN ?_ _ | refine blk_drew ?_ | refine blk_alloc ?_ _)); exact BK103.out) hb); have n3_ := Aside0.mk (below_step (by repeat (first | (with_reducible first | exact HB.out | apply below_alloc | apply pw_below_drewN | apply below_drew1 | refine below_set ?_ GE101.out | refine below_set ?_ GE102.out | refine below_set ?_ GE103.out) | exact HB.out)) hb); clear BK101; clear BK102; clear BK103; clear HB; have BK101 := n0_; have BK102 := n1_; have BK103 := n2_; have HB := n3_; clear n0_ n1_ n2_ n3_; (try clear hb); (try clear hb2); (try clear hk); (try clear hi); have hcz64_0 : w63.cell? ⟨gb101, 0, none⟩ = some (.int .i64 a0_0) := (blk_cell BK101.out 0).trans rfl; have hcz64_1 : w63.cell? ⟨gb101, 1, none⟩ = some (.int .i64 a0_1) := (blk_cell BK101.out 1).trans rfl; have hcz64_2 : w63.cell? ⟨gb101, 2, none⟩ = some (.string a0_2) := (blk_cell BK101.out 2).trans rfl; have hfz64_0 := blk_frozen BK101.out 0; have hfz64_1 := blk_frozen BK101.out 1; have hfz64_2 := blk_frozen BK101.out 2) | (go_at_call 19; (with_reducible refine (value_Compare.calls kj5 a0_0 a0_1 a0_2 a0_0 a0_1 a0_2 t112 _ A47.out).mono ?_); rintro e w65 ⟨rfl, hb⟩; have n0_ := Aside0.mk (blk_below (g := gb101) (o := .cells #[.int .i64 a0_0, .int .i64 a0_1, .string a0_2] 23 (0, 0)) (by (with_reducible repeat (first | refine blk_drewN ?_ _ | refine blk_drew ?_ | refine blk_alloc ?_ _)); exact BK101.out) hb); have n1_ := Aside0.mk (blk_below (g := gb102) (o := .cells #[.int .i64 a1_0, .int .i64 a1_1, .string a1_2] 23 (0, 0)) (by (with_reducible repeat (first | refine blk_drewN ?_ _ | refine blk_drew ?_ | refine blk_alloc ?_ _)); exact BK102.out) hb); have n2_ := Aside0.mk (blk_below (g := gb103) (o := .cells #[.int .i64 a2_0, .int .i64 a2_1, .string a2_2] 23 (0, 0)) (by (with_reducible repeat (first | refine blk_drewN ?_ _ | refine blk_drew ?_ | refine blk_alloc ?_ _)); exact BK103.out) hb); have n3_ := Aside0.mk (below_step (by repeat (first | (with_reducible first | exact HB.out | apply below_alloc | apply pw_below_drewN | apply below_drew1 | refine below_set ?_ GE101.out | refine below_set ?_ GE102.out | refine below_set ?_ GE103.out) | exact HB.out)) hb); clear BK101; clear BK102; clear BK103; clear HB; have BK101 := n0_; have BK102 := n1_; have BK103 := n2_; have HB := n3_; clear n0_ n1_ n2_ n3_; (try clear hb); (try clear hb2); (try clear hk); (try clear hi)))
                    go_meet
                    case rel => exact ⟨_, (decide (t108 > 1)), (by first | rfl | (simp; done) | (simp [*]; done)), H', ⟨by have := HJ5.out; first | omega | exact Nat.le_refl _⟩, ⟨by (with_reducible repeat (first | refine blk_drewN ?_ _ | refine blk_drew ?_ | refine blk_alloc ?_ _)); exact BK101.out⟩, ⟨by (with_reducible repeat (first | refine blk_drewN ?_ _ | refine blk_drew ?_ | refine blk_alloc ?_ _)); exact BK102.out⟩, ⟨by (with_reducible repeat (first | refine blk_drewN ?_ _ | refine blk_drew ?_ | refine blk_alloc ?_ _)); exact BK103.out⟩, ⟨by repeat (first | (with_reducible first | exact HB.out | apply below_alloc | apply pw_below_drewN | apply below_drew1 | refine below_set ?_ GE101.out | refine below_set ?_ GE102.out | refine below_set ?_ GE103.out) | exact HB.out)⟩⟩
              · rw [if_neg c48] at H
                have c48b0 : (t112 == 0) = false := beq_eq_false_iff_ne.mpr c48
                have c48b1 : (t112 != 0) = true := bne_iff_ne.mpr c48
                as_aux_lemma =>
                  have H' := Aside0.mk H
                  clear H
                  have hnb66 := NB102_101.out
                  have hnc66 := NB101_102.out
                  have hnb67 := NB102_103.out
                  have hnc67 := NB103_102.out
                  have hcz68_0 : w44.cell? ⟨gb102, 0, none⟩ = some (.int .i64 a1_0) := (blk_cell BK102.out 0).trans rfl
                  have hcz68_1 : w44.cell? ⟨gb102, 1, none⟩ = some (.int .i64 a1_1) := (blk_cell BK102.out 1).trans rfl
                  have hcz68_2 : w44.cell? ⟨gb102, 2, none⟩ = some (.string a1_2) := (blk_cell BK102.out 2).trans rfl
                  have hfz68_0 := blk_frozen BK102.out 0
                  have hfz68_1 := blk_frozen BK102.out 1
                  have hfz68_2 := blk_frozen BK102.out 2
                  have hnb69 := NB101_103.out
                  have hnc69 := NB103_101.out
                  have hcz70_0 : w44.cell? ⟨gb101, 0, none⟩ = some (.int .i64 a0_0) := (blk_cell BK101.out 0).trans rfl
                  have hcz70_1 : w44.cell? ⟨gb101, 1, none⟩ = some (.int .i64 a0_1) := (blk_cell BK101.out 1).trans rfl
                  have hcz70_2 : w44.cell? ⟨gb101, 2, none⟩ = some (.string a0_2) := (blk_cell BK101.out 2).trans rfl
                  have hfz70_0 := blk_frozen BK101.out 0
                  have hfz70_1 := blk_frozen BK101.out 1
                  have hfz70_2 := blk_frozen BK101.out 2
                  go_wp2_with (first | ((with_reducible refine gate_callee (f := 19) rfl ?_); refine goesL_ (some 38) rfl rfl Tryd.func19 (by kernel_rfl) rfl #[.agg #[.int .i64 a1_0, .int .i64 a1_1, .string a1_2], .agg #[.int .i64 a0_0, .int .i64 a0_1, .string a0_2]] rfl (by (try simp only [List.map_toArray, List.map_cons, List.map_nil]); first | done | rfl | (simp only [List.length_drop, List.length_take]; rfl)) ?_; (with_reducible refine (value_Compare.calls kj5 a1_0 a1_1 a1_2 a0_0 a0_1 a0_2 t111 _ A45.out).mono ?_); rintro e w71 ⟨rfl, hb⟩; refine ⟨_, rfl, ?_⟩; have n0_ := Aside0.mk (blk_below (g := gb101) (o := .cells #[.int .i64 a0_0, .int .i64 a0_1, .string a0_2] 23 (0, 0)) (by (with_reducible repeat (first | refine blk_drewN ?_ _ | refine blk_drew ?_ | refine blk_alloc ?_ _)); exact BK101.out) hb); have n1_ := Aside0.mk (blk_below (g := gb102) (o := .cells #[.int .i64 a1_0, .int .i64 a1_1, .string a1_2] 23 (0, 0)) (by (with_reducible repeat (first | refine blk_drewN ?_ _ | refine blk_drew ?_ | refine blk_alloc ?_ _)); exact BK102.out) hb); have n2_ := Aside0.mk (blk_below (g := gb103) (o := .cells #[.int .i64 a2_0, .int .i64 a2_1, .string a2_2] 23 (0, 0)) (by (with_reducible repeat (first | refine blk_drewN ?_ _ | refine blk_drew ?_ | refine blk_alloc ?_ _)); exact BK103.out) hb); have n3_ := Aside0.mk (below_step (by repeat (first | (with_reducible first | exact HB.out | apply below_alloc | apply pw_below_drewN | apply below_drew1 | refine below_set ?_ GE101.out | refine below_set ?_ GE102.out | refine below_set ?_ GE103.out) | exact HB.out)) hb); clear BK101; clear BK102; clear BK103; clear HB; have BK101 := n0_; have BK102 := n1_; have BK103 := n2_; have HB := n3_; clear n0_ n1_ n2_ n3_; (try clear hb); (try clear hb2); (try clear hk); (try clear hi); have hcz72_0 : w71.cell? ⟨gb101, 0, none⟩ = some (.int .i64 a0_0) := (blk_cell BK101.out 0).trans rfl; have hcz72_1 : w71.cell? ⟨gb101, 1, none⟩ = some (.int .i64 a0_1) := (blk_cell BK101.out 1).trans rfl; have hcz72_2 : w71.cell? ⟨gb101, 2, none⟩ = some (.string a0_2) := (blk_cell BK101.out 2).trans rfl; have hfz72_0 := blk_frozen BK101.out 0; have hfz72_1 := blk_frozen BK101.out 1; have hfz72_2 := blk_frozen BK101.out 2) | (go_at_call 19; (with_reducible refine (value_Compare.calls kj5 a0_0 a0_1 a0_2 a0_0 a0_1 a0_2 t112 _ A47.out).mono ?_); rintro e w73 ⟨rfl, hb⟩; have n0_ := Aside0.mk (blk_below (g := gb101) (o := .cells #[.int .i64 a0_0, .int .i64 a0_1, .string a0_2] 23 (0, 0)) (by (with_reducible repeat (first | refine blk_drewN ?_ _ | refine blk_drew ?_ | refine blk_alloc ?_ _)); exact BK101.out) hb); have n1_ := Aside0.mk (blk_below (g := gb102) (o := .cells #[.int .i64 a1_0, .int .i64 a1_1, .string a1_2] 23 (0, 0)) (by (with_reducible repeat (first | refine blk_drewN ?_ _ | refine blk_drew ?_ | refine blk_alloc ?_ _)); exact BK102.out) hb); have n2_ := Aside0.mk (blk_below (g := gb103) (o := .cells #[.int .i64 a2_0, .int .i64 a2_1, .string a2_2] 23 (0, 0)) (by (with_reducible repeat (first | refine blk_drewN ?_ _ | refine blk_drew ?_ | refine blk_alloc ?_ _)); exact BK103.out) hb); have n3_ := Aside0.mk (below_step (by repeat (first | (with_reducible first | exact HB.out | apply below_alloc | apply pw_below_drewN | apply below_drew1 | refine below_set ?_ GE101.out | refine below_set ?_ GE102.out | refine below_set ?_ GE103.out) | exact HB.out)) hb); clear BK101; clear BK102; clear BK103; clear HB; have BK101 := n0_; have BK102 := n1_; have BK103 := n2_; have HB := n3_; clear n0_ n1_ n2_ n3_; (try clear hb); (try clear hb2); (try clear hk); (try clear hi)))
                  go_meet
                  case rel => exact ⟨_, (true), (by first | rfl | (simp; done) | (simp [*]; done)), H', ⟨by have := HJ5.out; first | omega | exact Nat.le_refl _⟩, ⟨by (with_reducible repeat (first | refine blk_drewN ?_ _ | refine blk_drew ?_ | refine blk_alloc ?_ _)); exact BK101.out⟩, ⟨by (with_reducible repeat (first | refine blk_drewN ?_ _ | refine blk_drew ?_ | refine blk_alloc ?_ _)); exact BK102.out⟩, ⟨by (with_reducible repeat (first | refine blk_drewN ?_ _ | refine blk_drew ?_ | refine blk_alloc ?_ _)); exact BK103.out⟩, ⟨by repeat (first | (with_reducible first | exact HB.out | apply below_alloc | apply pw_below_drewN | apply below_drew1 | refine below_set ?_ GE101.out | refine below_set ?_ GE102.out | refine below_set ?_ GE103.out) | exact HB.out)⟩⟩
            · rw [if_neg c46] at H
              have c46b0 : (t108 == (wrap64 (-t111))) = false := beq_eq_false_iff_ne.mpr c46
              have c46b1 : (t108 != (wrap64 (-t111))) = true := bne_iff_ne.mpr c46
              (first | rw [c46b0] | (simp only [i64_w, i32_w]; rw [c46b0]) | skip)
              as_aux_lemma =>
                have H' := Aside0.mk H
                clear H
                have hnb74 := NB102_101.out
                have hnc74 := NB101_102.out
                have hnb75 := NB102_103.out
                have hnc75 := NB103_102.out
                have hcz76_0 : w44.cell? ⟨gb102, 0, none⟩ = some (.int .i64 a1_0) := (blk_cell BK102.out 0).trans rfl
                have hcz76_1 : w44.cell? ⟨gb102, 1, none⟩ = some (.int .i64 a1_1) := (blk_cell BK102.out 1).trans rfl
                have hcz76_2 : w44.cell? ⟨gb102, 2, none⟩ = some (.string a1_2) := (blk_cell BK102.out 2).trans rfl
                have hfz76_0 := blk_frozen BK102.out 0
                have hfz76_1 := blk_frozen BK102.out 1
                have hfz76_2 := blk_frozen BK102.out 2
                have hnb77 := NB101_103.out
                have hnc77 := NB103_101.out
                have hcz78_0 : w44.cell? ⟨gb101, 0, none⟩ = some (.int .i64 a0_0) := (blk_cell BK101.out 0).trans rfl
                have hcz78_1 : w44.cell? ⟨gb101, 1, none⟩ = some (.int .i64 a0_1) := (blk_cell BK101.out 1).trans rfl
                have hcz78_2 : w44.cell? ⟨gb101, 2, none⟩ = some (.string a0_2) := (blk_cell BK101.out 2).trans rfl
                have hfz78_0 := blk_frozen BK101.out 0
                have hfz78_1 := blk_frozen BK101.out 1
                have hfz78_2 := blk_frozen BK101.out 2
                go_wp2_with (first | ((with_reducible refine gate_callee (f := 19) rfl ?_); refine goesL_ (some 38) rfl rfl Tryd.func19 (by kernel_rfl) rfl #[.agg #[.int .i64 a1_0, .int .i64 a1_1, .string a1_2], .agg #[.int .i64 a0_0, .int .i64 a0_1, .string a0_2]] rfl (by (try simp only [List.map_toArray, List.map_cons, List.map_nil]); first | done | rfl | (simp only [List.length_drop, List.length_take]; rfl)) ?_; (with_reducible refine (value_Compare.calls kj5 a1_0 a1_1 a1_2 a0_0 a0_1 a0_2 t111 _ A45.out).mono ?_); rintro e w79 ⟨rfl, hb⟩; refine ⟨_, rfl, ?_⟩; have n0_ := Aside0.mk (blk_below (g := gb101) (o := .cells #[.int .i64 a0_0, .int .i64 a0_1, .string a0_2] 23 (0, 0)) (by (with_reducible repeat (first | refine blk_drewN ?_ _ | refine blk_drew ?_ | refine blk_alloc ?_ _)); exact BK101.out) hb); have n1_ := Aside0.mk (blk_below (g := gb102) (o := .cells #[.int .i64 a1_0, .int .i64 a1_1, .string a1_2] 23 (0, 0)) (by (with_reducible repeat (first | refine blk_drewN ?_ _ | refine blk_drew ?_ | refine blk_alloc ?_ _)); exact BK102.out) hb); have n2_ := Aside0.mk (blk_below (g := gb103) (o := .cells #[.int .i64 a2_0, .int .i64 a2_1, .string a2_2] 23 (0, 0)) (by (with_reducible repeat (first | refine blk_drewN ?_ _ | refine blk_drew ?_ | refine blk_alloc ?_ _)); exact BK103.out) hb); have n3_ := Aside0.mk (below_step (by repeat (first | (with_reducible first | exact HB.out | apply below_alloc | apply pw_below_drewN | apply below_drew1 | refine below_set ?_ GE101.out | refine below_set ?_ GE102.out | refine below_set ?_ GE103.out) | exact HB.out)) hb); clear BK101; clear BK102; clear BK103; clear HB; have BK101 := n0_; have BK102 := n1_; have BK103 := n2_; have HB := n3_; clear n0_ n1_ n2_ n3_; (try clear hb); (try clear hb2); (try clear hk); (try clear hi)))
                go_meet
                case rel => exact ⟨_, (true), (by first | rfl | (simp; done) | (simp [*]; done)), H', ⟨by have := HJ5.out; first | omega | exact Nat.le_refl _⟩, ⟨by (with_reducible repeat (first | refine blk_drewN ?_ _ | refine blk_drew ?_ | refine blk_alloc ?_ _)); exact BK101.out⟩, ⟨by (with_reducible repeat (first | refine blk_drewN ?_ _ | refine blk_drew ?_ | refine blk_alloc ?_ _)); exact BK102.out⟩, ⟨by (with_reducible repeat (first | refine blk_drewN ?_ _ | refine blk_drew ?_ | refine blk_alloc ?_ _)); exact BK103.out⟩, ⟨by repeat (first | (with_reducible first | exact HB.out | apply below_alloc | apply pw_below_drewN | apply below_drew1 | refine below_set ?_ GE101.out | refine below_set ?_ GE102.out | refine below_set ?_ GE103.out) | exact HB.out)⟩⟩
          case rest =>
            clear HC40
            try clear c1
            try clear c2
            try clear p2
            try clear c3
            try clear c4
            try clear c5
            try clear c6
            try clear p6
            try clear c7
            try clear c8
            try clear c12
            try clear c14
            try clear c16
            try clear c17
            try clear c19
            try clear c20
            try clear c25
            try clear c26
            try clear c29
            try clear c32
            try clear c33
            try clear c36
            try clear c46
            try clear c46b0
            try clear c46b1
            try clear c48
            try clear c48b0
            try clear c48b1
            try clear c49
            try clear c49b0
            try clear c50
            try clear c51
            try clear c53
            try clear c58
            try clear c59
            try clear c61
            try clear p64
            try clear c66
            try clear c67
            try clear c69
            try clear c74
            try clear c75
            try clear c77
            try clear hcz18_0
            try clear hcz18_1
            try clear hcz18_2
            try clear hcz21_0
            try clear hcz21_1
            try clear hcz21_2
            try clear hcz23_0
            try clear hcz23_1
            try clear hcz23_2
            try clear hcz27_0
            try clear hcz27_1
            try clear hcz27_2
            try clear hcz30_0
            try clear hcz30_1
            try clear hcz30_2
            try clear hcz34_0
            try clear hcz34_1
            try clear hcz34_2
            try clear hcz52_0
            try clear hcz52_1
            try clear hcz52_2
            try clear hcz54_0
            try clear hcz54_1
            try clear hcz54_2
            try clear hcz56_0
            try clear hcz56_1
            try clear hcz56_2
            try clear hcz60_0
            try clear hcz60_1
            try clear hcz60_2
            try clear hcz62_0
            try clear hcz62_1
            try clear hcz62_2
            try clear hcz64_0
            try clear hcz64_1
            try clear hcz64_2
            try clear hcz68_0
            try clear hcz68_1
            try clear hcz68_2
            try clear hcz70_0
            try clear hcz70_1
            try clear hcz70_2
            try clear hcz72_0
            try clear hcz72_1
            try clear hcz72_2
            try clear hcz76_0
            try clear hcz76_1
            try clear hcz76_2
            try clear hcz78_0
            try clear hcz78_1
            try clear hcz78_2
            try clear hfz18_0
            try clear hfz18_1
            try clear hfz18_2
            try clear hfz21_0
            try clear hfz21_1
            try clear hfz21_2
            try clear hfz23_0
            try clear hfz23_1
            try clear hfz23_2
            try clear hfz27_0
            try clear hfz27_1
            try clear hfz27_2
            try clear hfz30_0
            try clear hfz30_1
            try clear hfz30_2
            try clear hfz34_0
            try clear hfz34_1
            try clear hfz34_2
            try clear hfz52_0
            try clear hfz52_1
            try clear hfz52_2
            try clear hfz54_0
            try clear hfz54_1
            try clear hfz54_2
            try clear hfz56_0
            try clear hfz56_1
            try clear hfz56_2
            try clear hfz60_0
            try clear hfz60_1
            try clear hfz60_2
            try clear hfz62_0
            try clear hfz62_1
            try clear hfz62_2
            try clear hfz64_0
            try clear hfz64_1
            try clear hfz64_2
            try clear hfz68_0
            try clear hfz68_1
            try clear hfz68_2
            try clear hfz70_0
            try clear hfz70_1
            try clear hfz70_2
            try clear hfz72_0
            try clear hfz72_1
            try clear hfz72_2
            try clear hfz76_0
            try clear hfz76_1
            try clear hfz76_2
            try clear hfz78_0
            try clear hfz78_1
            try clear hfz78_2
            try clear p2
            obtain ⟨kq, x54_39, rfl, HA, HJ39, BK101, BK102, BK103, HB⟩ := hcut
            cases kq with
            | zero => exact absurd HA.out (by simp [rabbetlaw1_ValueOrder.j1])
            | succ kj39 =>
              have H := HA.out
              clear HA
              simp only [rabbetlaw1_ValueOrder.j1] at H
              by_cases c80 : x54_39 = true
              · subst c80
                have H1 : (some false) = some r := by rw [if_pos rfl] at H; exact H
                clear H
                have H := H1
                clear H1
                as_aux_lemma =>
                  obtain rfl := Option.some.inj H
                  go_wp2
                  go_ret
                  exact ⟨by first | rfl | (simp [errW_none, errW_some] <;> rfl) | (simp [*, errW_none, errW_some] <;> rfl), by repeat (first | (with_reducible first | exact HB.out | apply below_alloc | apply pw_below_drewN | apply below_drew1 | refine below_set ?_ GE101.out | refine below_set ?_ GE102.out | refine below_set ?_ GE103.out) | exact HB.out)⟩
              · replace c80 := Bool.eq_false_iff.mpr c80
                subst c80
                have H1 : (if t108 ≤ 0 then (if t109 ≤ 0 then (if t110 > 0 then (rabbetlaw1_ValueOrder.j2 kj39 t108 true a0_0 a0_1 a0_2 a1_0 a1_1 a1_2) else (if t108 < 0 then (if t110 ≥ 0 then (rabbetlaw1_ValueOrder.j2 kj39 t108 true a0_0 a0_1 a0_2 a1_0 a1_1 a1_2) else (if t108 = 0 then (if t109 = 0 then (rabbetlaw1_ValueOrder.j2 kj39 t108 (t110 != 0) a0_0 a0_1 a0_2 a1_0 a1_1 a1_2) else (rabbetlaw1_ValueOrder.j2 kj39 t108 false a0_0 a0_1 a0_2 a1_0 a1_1 a1_2)) else (rabbetlaw1_ValueOrder.j2 kj39 t108 false a0_0 a0_1 a0_2 a1_0 a1_1 a1_2))) else (if t108 = 0 then (if t109 = 0 then (rabbetlaw1_ValueOrder.j2 kj39 t108 (t110 != 0) a0_0 a0_1 a0_2 a1_0 a1_1 a1_2) else (rabbetlaw1_ValueOrder.j2 kj39 t108 false a0_0 a0_1 a0_2 a1_0 a1_1 a1_2)) else (rabbetlaw1_ValueOrder.j2 kj39 t108 false a0_0 a0_1 a0_2 a1_0 a1_1 a1_2)))) else (if t108 < 0 then (if t108 = 0 then (if t109 = 0 then (rabbetlaw1_ValueOrder.j2 kj39 t108 (t110 != 0) a0_0 a0_1 a0_2 a1_0 a1_1 a1_2) else (rabbetlaw1_ValueOrder.j2 kj39 t108 false a0_0 a0_1 a0_2 a1_0 a1_1 a1_2)) else (rabbetlaw1_ValueOrder.j2 kj39 t108 false a0_0 a0_1 a0_2 a1_0 a1_1 a1_2)) else (if t108 = 0 then (if t109 = 0 then (rabbetlaw1_ValueOrder.j2 kj39 t108 (t110 != 0) a0_0 a0_1 a0_2 a1_0 a1_1 a1_2) else (rabbetlaw1_ValueOrder.j2 kj39 t108 false a0_0 a0_1 a0_2 a1_0 a1_1 a1_2)) else (rabbetlaw1_ValueOrder.j2 kj39 t108 false a0_0 a0_1 a0_2 a1_0 a1_1 a1_2)))) else (if t108 < 0 then (if t109 ≤ 0 then (if t110 ≥ 0 then (rabbetlaw1_ValueOrder.j2 kj39 t108 true a0_0 a0_1 a0_2 a1_0 a1_1 a1_2) else (if t108 = 0 then (if t109 = 0 then (rabbetlaw1_ValueOrder.j2 kj39 t108 (t110 != 0) a0_0 a0_1 a0_2 a1_0 a1_1 a1_2) else (rabbetlaw1_ValueOrder.j2 kj39 t108 false a0_0 a0_1 a0_2 a1_0 a1_1 a1_2)) else (rabbetlaw1_ValueOrder.j2 kj39 t108 false a0_0 a0_1 a0_2 a1_0 a1_1 a1_2))) else (if t108 = 0 then (if t109 = 0 then (rabbetlaw1_ValueOrder.j2 kj39 t108 (t110 != 0) a0_0 a0_1 a0_2 a1_0 a1_1 a1_2) else (rabbetlaw1_ValueOrder.j2 kj39 t108 false a0_0 a0_1 a0_2 a1_0 a1_1 a1_2)) else (rabbetlaw1_ValueOrder.j2 kj39 t108 false a0_0 a0_1 a0_2 a1_0 a1_1 a1_2))) else (if t108 = 0 then (if t109 = 0 then (rabbetlaw1_ValueOrder.j2 kj39 t108 (t110 != 0) a0_0 a0_1 a0_2 a1_0 a1_1 a1_2) else (rabbetlaw1_ValueOrder.j2 kj39 t108 false a0_0 a0_1 a0_2 a1_0 a1_1 a1_2)) else (rabbetlaw1_ValueOrder.j2 kj39 t108 false a0_0 a0_1 a0_2 a1_0 a1_1 a1_2)))) = some r := by rw [if_neg (show ¬ (false = true) by decide)] at H; exact H
                clear H
                have H := H1
                clear H1
                have HC81 := Aside0.mk H
                clear H
                go_upto_region 8 with (fail)
                go_cut [88] (fun v88 wc => ∃ (kq : Nat) (x88_80 : Bool), v88 = .bool x88_80 ∧ Aside0 (rabbetlaw1_ValueOrder.j2 kq t108 x88_80 a0_0 a0_1 a0_2 a1_0 a1_1 a1_2 = some r) ∧ Aside0 (kq ≤ kj39) ∧ Aside0 (wc.heap[gb101]? = some (.cells #[.int .i64 a0_0, .int .i64 a0_1, .string a0_2] 23 (0, 0))) ∧ Aside0 (wc.heap[gb102]? = some (.cells #[.int .i64 a1_0, .int .i64 a1_1, .string a1_2] 23 (0, 0))) ∧ Aside0 (wc.heap[gb103]? = some (.cells #[.int .i64 a2_0, .int .i64 a2_1, .string a2_2] 23 (0, 0))) ∧ Aside0 (Below w.heap.size w wc))
                case first =>
                  have H := HC81.out
                  clear HC81
                  by_cases c82 : t108 ≤ 0
                  · rw [if_pos c82] at H
                    have c82b0 : decide (t108 ≤ 0) = true := decide_eq_true c82
                    clear c82
                    (first | rw [c82b0] | (simp only [i64_w, i32_w]; rw [c82b0]) | skip)
                    by_cases c83 : t109 ≤ 0
                    · rw [if_pos c83] at H
                      have c83b0 : decide (t109 ≤ 0) = true := decide_eq_true c83
                      clear c83
                      by_cases c84 : t110 > 0
                      · rw [if_pos c84] at H
                        have c84b0 : decide (0 < t110) = true := decide_eq_true c84
                        clear c84
                        as_aux_lemma =>
                          have H' := Aside0.mk H
                          clear H
                          go_wp2
                          go_meet
                          case rel => exact ⟨_, (true), (by first | rfl | (simp; done) | (simp [*]; done)), H', ⟨by have := HJ5.out; have := HJ39.out; first | omega | exact Nat.le_refl _⟩, ⟨by (with_reducible repeat (first | refine blk_drewN ?_ _ | refine blk_drew ?_ | refine blk_alloc ?_ _)); exact BK101.out⟩, ⟨by (with_reducible repeat (first | refine blk_drewN ?_ _ | refine blk_drew ?_ | refine blk_alloc ?_ _)); exact BK102.out⟩, ⟨by (with_reducible repeat (first | refine blk_drewN ?_ _ | refine blk_drew ?_ | refine blk_alloc ?_ _)); exact BK103.out⟩, ⟨by repeat (first | (with_reducible first | exact HB.out | apply below_alloc | apply pw_below_drewN | apply below_drew1 | refine below_set ?_ GE101.out | refine below_set ?_ GE102.out | refine below_set ?_ GE103.out) | exact HB.out)⟩⟩
                      · rw [if_neg c84] at H
                        have c84b0 : decide (0 < t110) = false := decide_eq_false c84
                        clear c84
                        by_cases c85 : t108 < 0
                        · rw [if_pos c85] at H
                          have c85b0 : decide (t108 < 0) = true := decide_eq_true c85
                          clear c85
                          by_cases c86 : t110 ≥ 0
                          · rw [if_pos c86] at H
                            have c86b0 : decide (0 ≤ t110) = true := decide_eq_true c86
                            clear c86
                            as_aux_lemma =>
                              have H' := Aside0.mk H
                              clear H
                              go_wp2
                              go_meet
                              case rel => exact ⟨_, (true), (by first | rfl | (simp; done) | (simp [*]; done)), H', ⟨by have := HJ5.out; have := HJ39.out; first | omega | exact Nat.le_refl _⟩, ⟨by (with_reducible repeat (first | refine blk_drewN ?_ _ | refine blk_drew ?_ | refine blk_alloc ?_ _)); exact BK101.out⟩, ⟨by (with_reducible repeat (first | refine blk_drewN ?_ _ | refine blk_drew ?_ | refine blk_alloc ?_ _)); exact BK102.out⟩, ⟨by (with_reducible repeat (first | refine blk_drewN ?_ _ | refine blk_drew ?_ | refine blk_alloc ?_ _)); exact BK103.out⟩, ⟨by repeat (first | (with_reducible first | exact HB.out | apply below_alloc | apply pw_below_drewN | apply below_drew1 | refine below_set ?_ GE101.out | refine below_set ?_ GE102.out | refine below_set ?_ GE103.out) | exact HB.out)⟩⟩
                          · rw [if_neg c86] at H
                            have c86b0 : decide (0 ≤ t110) = false := decide_eq_false c86
                            clear c86
                            by_cases c87 : t108 = 0
                            · rw [if_pos c87] at H
                              have c87b0 : (t108 == 0) = true := beq_iff_eq.mpr c87
                              have c87b1 : (t108 != 0) = false := bne_eq_false_iff_eq.mpr c87
                              clear c87
                              by_cases c88 : t109 = 0
                              · rw [if_pos c88] at H
                                have c88b0 : (t109 == 0) = true := beq_iff_eq.mpr c88
                                have c88b1 : (t109 != 0) = false := bne_eq_false_iff_eq.mpr c88
                                clear c88
                                as_aux_lemma =>
                                  have H' := Aside0.mk H
                                  clear H
                                  go_wp2
                                  go_meet
                                  case rel => exact ⟨_, ((t110 != 0)), (by first | rfl | (simp; done) | (simp [*]; done)), H', ⟨by have := HJ5.out; have := HJ39.out; first | omega | exact Nat.le_refl _⟩, ⟨by (with_reducible repeat (first | refine blk_drewN ?_ _ | refine blk_drew ?_ | refine blk_alloc ?_ _)); exact BK101.out⟩, ⟨by (with_reducible repeat (first | refine blk_drewN ?_ _ | refine blk_drew ?_ | refine blk_alloc ?_ _)); exact BK102.out⟩, ⟨by (with_reducible repeat (first | refine blk_drewN ?_ _ | refine blk_drew ?_ | refine blk_alloc ?_ _)); exact BK103.out⟩, ⟨by repeat (first | (with_reducible first | exact HB.out | apply below_alloc | apply pw_below_drewN | apply below_drew1 | refine below_set ?_ GE101.out | refine below_set ?_ GE102.out | refine below_set ?_ GE103.out) | exact HB.out)⟩⟩
                              · rw [if_neg c88] at H
                                have c88b0 : (t109 == 0) = false := beq_eq_false_iff_ne.mpr c88
                                have c88b1 : (t109 != 0) = true := bne_iff_ne.mpr c88
                                as_aux_lemma =>
                                  have H' := Aside0.mk H
                                  clear H
                                  go_wp2
                                  go_meet
                                  case rel => exact ⟨_, (false), (by first | rfl | (simp; done) | (simp [*]; done)), H', ⟨by have := HJ5.out; have := HJ39.out; first | omega | exact Nat.le_refl _⟩, ⟨by (with_reducible repeat (first | refine blk_drewN ?_ _ | refine blk_drew ?_ | refine blk_alloc ?_ _)); exact BK101.out⟩, ⟨by (with_reducible repeat (first | refine blk_drewN ?_ _ | refine blk_drew ?_ | refine blk_alloc ?_ _)); exact BK102.out⟩, ⟨by (with_reducible repeat (first | refine blk_drewN ?_ _ | refine blk_drew ?_ | refine blk_alloc ?_ _)); exact BK103.out⟩, ⟨by repeat (first | (with_reducible first | exact HB.out | apply below_alloc | apply pw_below_drewN | apply below_drew1 | refine below_set ?_ GE101.out | refine below_set ?_ GE102.out | refine below_set ?_ GE103.out) | exact HB.out)⟩⟩
                            · rw [if_neg c87] at H
                              have c87b0 : (t108 == 0) = false := beq_eq_false_iff_ne.mpr c87
                              have c87b1 : (t108 != 0) = true := bne_iff_ne.mpr c87
                              as_aux_lemma =>
                                have H' := Aside0.mk H
                                clear H
                                go_wp2
                                go_meet
                                case rel => exact ⟨_, (false), (by first | rfl | (simp; done) | (simp [*]; done)), H', ⟨by have := HJ5.out; have := HJ39.out; first | omega | exact Nat.le_refl _⟩, ⟨by (with_reducible repeat (first | refine blk_drewN ?_ _ | refine blk_drew ?_ | refine blk_alloc ?_ _)); exact BK101.out⟩, ⟨by (with_reducible repeat (first | refine blk_drewN ?_ _ | refine blk_drew ?_ | refine blk_alloc ?_ _)); exact BK102.out⟩, ⟨by (with_reducible repeat (first | refine blk_drewN ?_ _ | refine blk_drew ?_ | refine blk_alloc ?_ _)); exact BK103.out⟩, ⟨by repeat (first | (with_reducible first | exact HB.out | apply below_alloc | apply pw_below_drewN | apply below_drew1 | refine below_set ?_ GE101.out | refine below_set ?_ GE102.out | refine below_set ?_ GE103.out) | exact HB.out)⟩⟩
                        · rw [if_neg c85] at H
                          have c85b0 : decide (t108 < 0) = false := decide_eq_false c85
                          clear c85
                          by_cases c89 : t108 = 0
                          · rw [if_pos c89] at H
                            have c89b0 : (t108 == 0) = true := beq_iff_eq.mpr c89
                            have c89b1 : (t108 != 0) = false := bne_eq_false_iff_eq.mpr c89
                            clear c89
                            by_cases c90 : t109 = 0
                            · rw [if_pos c90] at H
                              have c90b0 : (t109 == 0) = true := beq_iff_eq.mpr c90
                              have c90b1 : (t109 != 0) = false := bne_eq_false_iff_eq.mpr c90
                              clear c90
                              as_aux_lemma =>
                                have H' := Aside0.mk H
                                clear H
                                go_wp2
                                go_meet
                                case rel => exact ⟨_, ((t110 != 0)), (by first | rfl | (simp; done) | (simp [*]; done)), H', ⟨by have := HJ5.out; have := HJ39.out; first | omega | exact Nat.le_refl _⟩, ⟨by (with_reducible repeat (first | refine blk_drewN ?_ _ | refine blk_drew ?_ | refine blk_alloc ?_ _)); exact BK101.out⟩, ⟨by (with_reducible repeat (first | refine blk_drewN ?_ _ | refine blk_drew ?_ | refine blk_alloc ?_ _)); exact BK102.out⟩, ⟨by (with_reducible repeat (first | refine blk_drewN ?_ _ | refine blk_drew ?_ | refine blk_alloc ?_ _)); exact BK103.out⟩, ⟨by repeat (first | (with_reducible first | exact HB.out | apply below_alloc | apply pw_below_drewN | apply below_drew1 | refine below_set ?_ GE101.out | refine below_set ?_ GE102.out | refine below_set ?_ GE103.out) | exact HB.out)⟩⟩
                            · rw [if_neg c90] at H
                              have c90b0 : (t109 == 0) = false := beq_eq_false_iff_ne.mpr c90
                              have c90b1 : (t109 != 0) = true := bne_iff_ne.mpr c90
                              as_aux_lemma =>
                                have H' := Aside0.mk H
                                clear H
                                go_wp2
                                go_meet
                                case rel => exact ⟨_, (false), (by first | rfl | (simp; done) | (simp [*]; done)), H', ⟨by have := HJ5.out; have := HJ39.out; first | omega | exact Nat.le_refl _⟩, ⟨by (with_reducible repeat (first | refine blk_drewN ?_ _ | refine blk_drew ?_ | refine blk_alloc ?_ _)); exact BK101.out⟩, ⟨by (with_reducible repeat (first | refine blk_drewN ?_ _ | refine blk_drew ?_ | refine blk_alloc ?_ _)); exact BK102.out⟩, ⟨by (with_reducible repeat (first | refine blk_drewN ?_ _ | refine blk_drew ?_ | refine blk_alloc ?_ _)); exact BK103.out⟩, ⟨by repeat (first | (with_reducible first | exact HB.out | apply below_alloc | apply pw_below_drewN | apply below_drew1 | refine below_set ?_ GE101.out | refine below_set ?_ GE102.out | refine below_set ?_ GE103.out) | exact HB.out)⟩⟩
                          · rw [if_neg c89] at H
                            have c89b0 : (t108 == 0) = false := beq_eq_false_iff_ne.mpr c89
                            have c89b1 : (t108 != 0) = true := bne_iff_ne.mpr c89
                            as_aux_lemma =>
                              have H' := Aside0.mk H
                              clear H
                              go_wp2
                              go_meet
                              case rel => exact ⟨_, (false), (by first | rfl | (simp; done) | (simp [*]; done)), H', ⟨by have := HJ5.out; have := HJ39.out; first | omega | exact Nat.le_refl _⟩, ⟨by (with_reducible repeat (first | refine blk_drewN ?_ _ | refine blk_drew ?_ | refine blk_alloc ?_ _)); exact BK101.out⟩, ⟨by (with_reducible repeat (first | refine blk_drewN ?_ _ | refine blk_drew ?_ | refine blk_alloc ?_ _)); exact BK102.out⟩, ⟨by (with_reducible repeat (first | refine blk_drewN ?_ _ | refine blk_drew ?_ | refine blk_alloc ?_ _)); exact BK103.out⟩, ⟨by repeat (first | (with_reducible first | exact HB.out | apply below_alloc | apply pw_below_drewN | apply below_drew1 | refine below_set ?_ GE101.out | refine below_set ?_ GE102.out | refine below_set ?_ GE103.out) | exact HB.out)⟩⟩
                    · rw [if_neg c83] at H
                      have c83b0 : decide (t109 ≤ 0) = false := decide_eq_false c83
                      clear c83
                      by_cases c91 : t108 < 0
                      · rw [if_pos c91] at H
                        have c91b0 : decide (t108 < 0) = true := decide_eq_true c91
                        clear c91
                        by_cases c92 : t108 = 0
                        · rw [if_pos c92] at H
                          have c92b0 : (t108 == 0) = true := beq_iff_eq.mpr c92
                          have c92b1 : (t108 != 0) = false := bne_eq_false_iff_eq.mpr c92
                          clear c92
                          by_cases c93 : t109 = 0
                          · rw [if_pos c93] at H
                            have c93b0 : (t109 == 0) = true := beq_iff_eq.mpr c93
                            have c93b1 : (t109 != 0) = false := bne_eq_false_iff_eq.mpr c93
                            clear c93
                            as_aux_lemma =>
                              have H' := Aside0.mk H
                              clear H
                              go_wp2
                              go_meet
                              case rel => exact ⟨_, ((t110 != 0)), (by first | rfl | (simp; done) | (simp [*]; done)), H', ⟨by have := HJ5.out; have := HJ39.out; first | omega | exact Nat.le_refl _⟩, ⟨by (with_reducible repeat (first | refine blk_drewN ?_ _ | refine blk_drew ?_ | refine blk_alloc ?_ _)); exact BK101.out⟩, ⟨by (with_reducible repeat (first | refine blk_drewN ?_ _ | refine blk_drew ?_ | refine blk_alloc ?_ _)); exact BK102.out⟩, ⟨by (with_reducible repeat (first | refine blk_drewN ?_ _ | refine blk_drew ?_ | refine blk_alloc ?_ _)); exact BK103.out⟩, ⟨by repeat (first | (with_reducible first | exact HB.out | apply below_alloc | apply pw_below_drewN | apply below_drew1 | refine below_set ?_ GE101.out | refine below_set ?_ GE102.out | refine below_set ?_ GE103.out) | exact HB.out)⟩⟩
                          · rw [if_neg c93] at H
                            have c93b0 : (t109 == 0) = false := beq_eq_false_iff_ne.mpr c93
                            have c93b1 : (t109 != 0) = true := bne_iff_ne.mpr c93
                            as_aux_lemma =>
                              have H' := Aside0.mk H
                              clear H
                              go_wp2
                              go_meet
                              case rel => exact ⟨_, (false), (by first | rfl | (simp; done) | (simp [*]; done)), H', ⟨by have := HJ5.out; have := HJ39.out; first | omega | exact Nat.le_refl _⟩, ⟨by (with_reducible repeat (first | refine blk_drewN ?_ _ | refine blk_drew ?_ | refine blk_alloc ?_ _)); exact BK101.out⟩, ⟨by (with_reducible repeat (first | refine blk_drewN ?_ _ | refine blk_drew ?_ | refine blk_alloc ?_ _)); exact BK102.out⟩, ⟨by (with_reducible repeat (first | refine blk_drewN ?_ _ | refine blk_drew ?_ | refine blk_alloc ?_ _)); exact BK103.out⟩, ⟨by repeat (first | (with_reducible first | exact HB.out | apply below_alloc | apply pw_below_drewN | apply below_drew1 | refine below_set ?_ GE101.out | refine below_set ?_ GE102.out | refine below_set ?_ GE103.out) | exact HB.out)⟩⟩
                        · rw [if_neg c92] at H
                          have c92b0 : (t108 == 0) = false := beq_eq_false_iff_ne.mpr c92
                          have c92b1 : (t108 != 0) = true := bne_iff_ne.mpr c92
                          as_aux_lemma =>
                            have H' := Aside0.mk H
                            clear H
                            go_wp2
                            go_meet
                            case rel => exact ⟨_, (false), (by first | rfl | (simp; done) | (simp [*]; done)), H', ⟨by have := HJ5.out; have := HJ39.out; first | omega | exact Nat.le_refl _⟩, ⟨by (with_reducible repeat (first | refine blk_drewN ?_ _ | refine blk_drew ?_ | refine blk_alloc ?_ _)); exact BK101.out⟩, ⟨by (with_reducible repeat (first | refine blk_drewN ?_ _ | refine blk_drew ?_ | refine blk_alloc ?_ _)); exact BK102.out⟩, ⟨by (with_reducible repeat (first | refine blk_drewN ?_ _ | refine blk_drew ?_ | refine blk_alloc ?_ _)); exact BK103.out⟩, ⟨by repeat (first | (with_reducible first | exact HB.out | apply below_alloc | apply pw_below_drewN | apply below_drew1 | refine below_set ?_ GE101.out | refine below_set ?_ GE102.out | refine below_set ?_ GE103.out) | exact HB.out)⟩⟩
                      · rw [if_neg c91] at H
                        have c91b0 : decide (t108 < 0) = false := decide_eq_false c91
                        clear c91
                        by_cases c94 : t108 = 0
                        · rw [if_pos c94] at H
                          have c94b0 : (t108 == 0) = true := beq_iff_eq.mpr c94
                          have c94b1 : (t108 != 0) = false := bne_eq_false_iff_eq.mpr c94
                          clear c94
                          by_cases c95 : t109 = 0
                          · rw [if_pos c95] at H
                            have c95b0 : (t109 == 0) = true := beq_iff_eq.mpr c95
                            have c95b1 : (t109 != 0) = false := bne_eq_false_iff_eq.mpr c95
                            clear c95
                            as_aux_lemma =>
                              have H' := Aside0.mk H
                              clear H
                              go_wp2
                              go_meet
                              case rel => exact ⟨_, ((t110 != 0)), (by first | rfl | (simp; done) | (simp [*]; done)), H', ⟨by have := HJ5.out; have := HJ39.out; first | omega | exact Nat.le_refl _⟩, ⟨by (with_reducible repeat (first | refine blk_drewN ?_ _ | refine blk_drew ?_ | refine blk_alloc ?_ _)); exact BK101.out⟩, ⟨by (with_reducible repeat (first | refine blk_drewN ?_ _ | refine blk_drew ?_ | refine blk_alloc ?_ _)); exact BK102.out⟩, ⟨by (with_reducible repeat (first | refine blk_drewN ?_ _ | refine blk_drew ?_ | refine blk_alloc ?_ _)); exact BK103.out⟩, ⟨by repeat (first | (with_reducible first | exact HB.out | apply below_alloc | apply pw_below_drewN | apply below_drew1 | refine below_set ?_ GE101.out | refine below_set ?_ GE102.out | refine below_set ?_ GE103.out) | exact HB.out)⟩⟩
                          · rw [if_neg c95] at H
                            have c95b0 : (t109 == 0) = false := beq_eq_false_iff_ne.mpr c95
                            have c95b1 : (t109 != 0) = true := bne_iff_ne.mpr c95
                            as_aux_lemma =>
                              have H' := Aside0.mk H
                              clear H
                              go_wp2
                              go_meet
                              case rel => exact ⟨_, (false), (by first | rfl | (simp; done) | (simp [*]; done)), H', ⟨by have := HJ5.out; have := HJ39.out; first | omega | exact Nat.le_refl _⟩, ⟨by (with_reducible repeat (first | refine blk_drewN ?_ _ | refine blk_drew ?_ | refine blk_alloc ?_ _)); exact BK101.out⟩, ⟨by (with_reducible repeat (first | refine blk_drewN ?_ _ | refine blk_drew ?_ | refine blk_alloc ?_ _)); exact BK102.out⟩, ⟨by (with_reducible repeat (first | refine blk_drewN ?_ _ | refine blk_drew ?_ | refine blk_alloc ?_ _)); exact BK103.out⟩, ⟨by repeat (first | (with_reducible first | exact HB.out | apply below_alloc | apply pw_below_drewN | apply below_drew1 | refine below_set ?_ GE101.out | refine below_set ?_ GE102.out | refine below_set ?_ GE103.out) | exact HB.out)⟩⟩
                        · rw [if_neg c94] at H
                          have c94b0 : (t108 == 0) = false := beq_eq_false_iff_ne.mpr c94
                          have c94b1 : (t108 != 0) = true := bne_iff_ne.mpr c94
                          as_aux_lemma =>
                            have H' := Aside0.mk H
                            clear H
                            go_wp2
                            go_meet
                            case rel => exact ⟨_, (false), (by first | rfl | (simp; done) | (simp [*]; done)), H', ⟨by have := HJ5.out; have := HJ39.out; first | omega | exact Nat.le_refl _⟩, ⟨by (with_reducible repeat (first | refine blk_drewN ?_ _ | refine blk_drew ?_ | refine blk_alloc ?_ _)); exact BK101.out⟩, ⟨by (with_reducible repeat (first | refine blk_drewN ?_ _ | refine blk_drew ?_ | refine blk_alloc ?_ _)); exact BK102.out⟩, ⟨by (with_reducible repeat (first | refine blk_drewN ?_ _ | refine blk_drew ?_ | refine blk_alloc ?_ _)); exact BK103.out⟩, ⟨by repeat (first | (with_reducible first | exact HB.out | apply below_alloc | apply pw_below_drewN | apply below_drew1 | refine below_set ?_ GE101.out | refine below_set ?_ GE102.out | refine below_set ?_ GE103.out) | exact HB.out)⟩⟩
                  · rw [if_neg c82] at H
                    have c82b0 : decide (t108 ≤ 0) = false := decide_eq_false c82
                    clear c82
                    (first | rw [c82b0] | (simp only [i64_w, i32_w]; rw [c82b0]) | skip)
                    by_cases c96 : t108 < 0
                    · rw [if_pos c96] at H
                      have c96b0 : decide (t108 < 0) = true := decide_eq_true c96
                      clear c96
                      by_cases c97 : t109 ≤ 0
                      · rw [if_pos c97] at H
                        have c97b0 : decide (t109 ≤ 0) = true := decide_eq_true c97
                        clear c97
                        by_cases c98 : t110 ≥ 0
                        · rw [if_pos c98] at H
                          have c98b0 : decide (0 ≤ t110) = true := decide_eq_true c98
                          clear c98
                          as_aux_lemma =>
                            have H' := Aside0.mk H
                            clear H
                            go_wp2
                            go_meet
                            case rel => exact ⟨_, (true), (by first | rfl | (simp; done) | (simp [*]; done)), H', ⟨by have := HJ5.out; have := HJ39.out; first | omega | exact Nat.le_refl _⟩, ⟨by (with_reducible repeat (first | refine blk_drewN ?_ _ | refine blk_drew ?_ | refine blk_alloc ?_ _)); exact BK101.out⟩, ⟨by (with_reducible repeat (first | refine blk_drewN ?_ _ | refine blk_drew ?_ | refine blk_alloc ?_ _)); exact BK102.out⟩, ⟨by (with_reducible repeat (first | refine blk_drewN ?_ _ | refine blk_drew ?_ | refine blk_alloc ?_ _)); exact BK103.out⟩, ⟨by repeat (first | (with_reducible first | exact HB.out | apply below_alloc | apply pw_below_drewN | apply below_drew1 | refine below_set ?_ GE101.out | refine below_set ?_ GE102.out | refine below_set ?_ GE103.out) | exact HB.out)⟩⟩
                        · rw [if_neg c98] at H
                          have c98b0 : decide (0 ≤ t110) = false := decide_eq_false c98
                          clear c98
                          by_cases c99 : t108 = 0
                          · rw [if_pos c99] at H
                            have c99b0 : (t108 == 0) = true := beq_iff_eq.mpr c99
                            have c99b1 : (t108 != 0) = false := bne_eq_false_iff_eq.mpr c99
                            clear c99
                            by_cases c100 : t109 = 0
                            · rw [if_pos c100] at H
                              have c100b0 : (t109 == 0) = true := beq_iff_eq.mpr c100
                              have c100b1 : (t109 != 0) = false := bne_eq_false_iff_eq.mpr c100
                              clear c100
                              as_aux_lemma =>
                                have H' := Aside0.mk H
                                clear H
                                go_wp2
                                go_meet
                                case rel => exact ⟨_, ((t110 != 0)), (by first | rfl | (simp; done) | (simp [*]; done)), H', ⟨by have := HJ5.out; have := HJ39.out; first | omega | exact Nat.le_refl _⟩, ⟨by (with_reducible repeat (first | refine blk_drewN ?_ _ | refine blk_drew ?_ | refine blk_alloc ?_ _)); exact BK101.out⟩, ⟨by (with_reducible repeat (first | refine blk_drewN ?_ _ | refine blk_drew ?_ | refine blk_alloc ?_ _)); exact BK102.out⟩, ⟨by (with_reducible repeat (first | refine blk_drewN ?_ _ | refine blk_drew ?_ | refine blk_alloc ?_ _)); exact BK103.out⟩, ⟨by repeat (first | (with_reducible first | exact HB.out | apply below_alloc | apply pw_below_drewN | apply below_drew1 | refine below_set ?_ GE101.out | refine below_set ?_ GE102.out | refine below_set ?_ GE103.out) | exact HB.out)⟩⟩
                            · rw [if_neg c100] at H
                              have c100b0 : (t109 == 0) = false := beq_eq_false_iff_ne.mpr c100
                              have c100b1 : (t109 != 0) = true := bne_iff_ne.mpr c100
                              as_aux_lemma =>
                                have H' := Aside0.mk H
                                clear H
                                go_wp2
                                go_meet
                                case rel => exact ⟨_, (false), (by first | rfl | (simp; done) | (simp [*]; done)), H', ⟨by have := HJ5.out; have := HJ39.out; first | omega | exact Nat.le_refl _⟩, ⟨by (with_reducible repeat (first | refine blk_drewN ?_ _ | refine blk_drew ?_ | refine blk_alloc ?_ _)); exact BK101.out⟩, ⟨by (with_reducible repeat (first | refine blk_drewN ?_ _ | refine blk_drew ?_ | refine blk_alloc ?_ _)); exact BK102.out⟩, ⟨by (with_reducible repeat (first | refine blk_drewN ?_ _ | refine blk_drew ?_ | refine blk_alloc ?_ _)); exact BK103.out⟩, ⟨by repeat (first | (with_reducible first | exact HB.out | apply below_alloc | apply pw_below_drewN | apply below_drew1 | refine below_set ?_ GE101.out | refine below_set ?_ GE102.out | refine below_set ?_ GE103.out) | exact HB.out)⟩⟩
                          · rw [if_neg c99] at H
                            have c99b0 : (t108 == 0) = false := beq_eq_false_iff_ne.mpr c99
                            have c99b1 : (t108 != 0) = true := bne_iff_ne.mpr c99
                            as_aux_lemma =>
                              have H' := Aside0.mk H
                              clear H
                              go_wp2
                              go_meet
                              case rel => exact ⟨_, (false), (by first | rfl | (simp; done) | (simp [*]; done)), H', ⟨by have := HJ5.out; have := HJ39.out; first | omega | exact Nat.le_refl _⟩, ⟨by (with_reducible repeat (first | refine blk_drewN ?_ _ | refine blk_drew ?_ | refine blk_alloc ?_ _)); exact BK101.out⟩, ⟨by (with_reducible repeat (first | refine blk_drewN ?_ _ | refine blk_drew ?_ | refine blk_alloc ?_ _)); exact BK102.out⟩, ⟨by (with_reducible repeat (first | refine blk_drewN ?_ _ | refine blk_drew ?_ | refine blk_alloc ?_ _)); exact BK103.out⟩, ⟨by repeat (first | (with_reducible first | exact HB.out | apply below_alloc | apply pw_below_drewN | apply below_drew1 | refine below_set ?_ GE101.out | refine below_set ?_ GE102.out | refine below_set ?_ GE103.out) | exact HB.out)⟩⟩
                      · rw [if_neg c97] at H
                        have c97b0 : decide (t109 ≤ 0) = false := decide_eq_false c97
                        clear c97
                        by_cases c101 : t108 = 0
                        · rw [if_pos c101] at H
                          have c101b0 : (t108 == 0) = true := beq_iff_eq.mpr c101
                          have c101b1 : (t108 != 0) = false := bne_eq_false_iff_eq.mpr c101
                          clear c101
                          by_cases c102 : t109 = 0
                          · rw [if_pos c102] at H
                            have c102b0 : (t109 == 0) = true := beq_iff_eq.mpr c102
                            have c102b1 : (t109 != 0) = false := bne_eq_false_iff_eq.mpr c102
                            clear c102
                            as_aux_lemma =>
                              have H' := Aside0.mk H
                              clear H
                              go_wp2
                              go_meet
                              case rel => exact ⟨_, ((t110 != 0)), (by first | rfl | (simp; done) | (simp [*]; done)), H', ⟨by have := HJ5.out; have := HJ39.out; first | omega | exact Nat.le_refl _⟩, ⟨by (with_reducible repeat (first | refine blk_drewN ?_ _ | refine blk_drew ?_ | refine blk_alloc ?_ _)); exact BK101.out⟩, ⟨by (with_reducible repeat (first | refine blk_drewN ?_ _ | refine blk_drew ?_ | refine blk_alloc ?_ _)); exact BK102.out⟩, ⟨by (with_reducible repeat (first | refine blk_drewN ?_ _ | refine blk_drew ?_ | refine blk_alloc ?_ _)); exact BK103.out⟩, ⟨by repeat (first | (with_reducible first | exact HB.out | apply below_alloc | apply pw_below_drewN | apply below_drew1 | refine below_set ?_ GE101.out | refine below_set ?_ GE102.out | refine below_set ?_ GE103.out) | exact HB.out)⟩⟩
                          · rw [if_neg c102] at H
                            have c102b0 : (t109 == 0) = false := beq_eq_false_iff_ne.mpr c102
                            have c102b1 : (t109 != 0) = true := bne_iff_ne.mpr c102
                            as_aux_lemma =>
                              have H' := Aside0.mk H
                              clear H
                              go_wp2
                              go_meet
                              case rel => exact ⟨_, (false), (by first | rfl | (simp; done) | (simp [*]; done)), H', ⟨by have := HJ5.out; have := HJ39.out; first | omega | exact Nat.le_refl _⟩, ⟨by (with_reducible repeat (first | refine blk_drewN ?_ _ | refine blk_drew ?_ | refine blk_alloc ?_ _)); exact BK101.out⟩, ⟨by (with_reducible repeat (first | refine blk_drewN ?_ _ | refine blk_drew ?_ | refine blk_alloc ?_ _)); exact BK102.out⟩, ⟨by (with_reducible repeat (first | refine blk_drewN ?_ _ | refine blk_drew ?_ | refine blk_alloc ?_ _)); exact BK103.out⟩, ⟨by repeat (first | (with_reducible first | exact HB.out | apply below_alloc | apply pw_below_drewN | apply below_drew1 | refine below_set ?_ GE101.out | refine below_set ?_ GE102.out | refine below_set ?_ GE103.out) | exact HB.out)⟩⟩
                        · rw [if_neg c101] at H
                          have c101b0 : (t108 == 0) = false := beq_eq_false_iff_ne.mpr c101
                          have c101b1 : (t108 != 0) = true := bne_iff_ne.mpr c101
                          as_aux_lemma =>
                            have H' := Aside0.mk H
                            clear H
                            go_wp2
                            go_meet
                            case rel => exact ⟨_, (false), (by first | rfl | (simp; done) | (simp [*]; done)), H', ⟨by have := HJ5.out; have := HJ39.out; first | omega | exact Nat.le_refl _⟩, ⟨by (with_reducible repeat (first | refine blk_drewN ?_ _ | refine blk_drew ?_ | refine blk_alloc ?_ _)); exact BK101.out⟩, ⟨by (with_reducible repeat (first | refine blk_drewN ?_ _ | refine blk_drew ?_ | refine blk_alloc ?_ _)); exact BK102.out⟩, ⟨by (with_reducible repeat (first | refine blk_drewN ?_ _ | refine blk_drew ?_ | refine blk_alloc ?_ _)); exact BK103.out⟩, ⟨by repeat (first | (with_reducible first | exact HB.out | apply below_alloc | apply pw_below_drewN | apply below_drew1 | refine below_set ?_ GE101.out | refine below_set ?_ GE102.out | refine below_set ?_ GE103.out) | exact HB.out)⟩⟩
                    · rw [if_neg c96] at H
                      have c96b0 : decide (t108 < 0) = false := decide_eq_false c96
                      clear c96
                      by_cases c103 : t108 = 0
                      · rw [if_pos c103] at H
                        have c103b0 : (t108 == 0) = true := beq_iff_eq.mpr c103
                        have c103b1 : (t108 != 0) = false := bne_eq_false_iff_eq.mpr c103
                        clear c103
                        by_cases c104 : t109 = 0
                        · rw [if_pos c104] at H
                          have c104b0 : (t109 == 0) = true := beq_iff_eq.mpr c104
                          have c104b1 : (t109 != 0) = false := bne_eq_false_iff_eq.mpr c104
                          clear c104
                          as_aux_lemma =>
                            have H' := Aside0.mk H
                            clear H
                            go_wp2
                            go_meet
                            case rel => exact ⟨_, ((t110 != 0)), (by first | rfl | (simp; done) | (simp [*]; done)), H', ⟨by have := HJ5.out; have := HJ39.out; first | omega | exact Nat.le_refl _⟩, ⟨by (with_reducible repeat (first | refine blk_drewN ?_ _ | refine blk_drew ?_ | refine blk_alloc ?_ _)); exact BK101.out⟩, ⟨by (with_reducible repeat (first | refine blk_drewN ?_ _ | refine blk_drew ?_ | refine blk_alloc ?_ _)); exact BK102.out⟩, ⟨by (with_reducible repeat (first | refine blk_drewN ?_ _ | refine blk_drew ?_ | refine blk_alloc ?_ _)); exact BK103.out⟩, ⟨by repeat (first | (with_reducible first | exact HB.out | apply below_alloc | apply pw_below_drewN | apply below_drew1 | refine below_set ?_ GE101.out | refine below_set ?_ GE102.out | refine below_set ?_ GE103.out) | exact HB.out)⟩⟩
                        · rw [if_neg c104] at H
                          have c104b0 : (t109 == 0) = false := beq_eq_false_iff_ne.mpr c104
                          have c104b1 : (t109 != 0) = true := bne_iff_ne.mpr c104
                          as_aux_lemma =>
                            have H' := Aside0.mk H
                            clear H
                            go_wp2
                            go_meet
                            case rel => exact ⟨_, (false), (by first | rfl | (simp; done) | (simp [*]; done)), H', ⟨by have := HJ5.out; have := HJ39.out; first | omega | exact Nat.le_refl _⟩, ⟨by (with_reducible repeat (first | refine blk_drewN ?_ _ | refine blk_drew ?_ | refine blk_alloc ?_ _)); exact BK101.out⟩, ⟨by (with_reducible repeat (first | refine blk_drewN ?_ _ | refine blk_drew ?_ | refine blk_alloc ?_ _)); exact BK102.out⟩, ⟨by (with_reducible repeat (first | refine blk_drewN ?_ _ | refine blk_drew ?_ | refine blk_alloc ?_ _)); exact BK103.out⟩, ⟨by repeat (first | (with_reducible first | exact HB.out | apply below_alloc | apply pw_below_drewN | apply below_drew1 | refine below_set ?_ GE101.out | refine below_set ?_ GE102.out | refine below_set ?_ GE103.out) | exact HB.out)⟩⟩
                      · rw [if_neg c103] at H
                        have c103b0 : (t108 == 0) = false := beq_eq_false_iff_ne.mpr c103
                        have c103b1 : (t108 != 0) = true := bne_iff_ne.mpr c103
                        as_aux_lemma =>
                          have H' := Aside0.mk H
                          clear H
                          go_wp2
                          go_meet
                          case rel => exact ⟨_, (false), (by first | rfl | (simp; done) | (simp [*]; done)), H', ⟨by have := HJ5.out; have := HJ39.out; first | omega | exact Nat.le_refl _⟩, ⟨by (with_reducible repeat (first | refine blk_drewN ?_ _ | refine blk_drew ?_ | refine blk_alloc ?_ _)); exact BK101.out⟩, ⟨by (with_reducible repeat (first | refine blk_drewN ?_ _ | refine blk_drew ?_ | refine blk_alloc ?_ _)); exact BK102.out⟩, ⟨by (with_reducible repeat (first | refine blk_drewN ?_ _ | refine blk_drew ?_ | refine blk_alloc ?_ _)); exact BK103.out⟩, ⟨by repeat (first | (with_reducible first | exact HB.out | apply below_alloc | apply pw_below_drewN | apply below_drew1 | refine below_set ?_ GE101.out | refine below_set ?_ GE102.out | refine below_set ?_ GE103.out) | exact HB.out)⟩⟩
                case rest =>
                  clear HC81
                  try clear c1
                  try clear c2
                  try clear p2
                  try clear c3
                  try clear c4
                  try clear c5
                  try clear c6
                  try clear p6
                  try clear c7
                  try clear c8
                  try clear c9
                  try clear c10
                  try clear c12
                  try clear c14
                  try clear c16
                  try clear c17
                  try clear c19
                  try clear c20
                  try clear c25
                  try clear c26
                  try clear c29
                  try clear c32
                  try clear c33
                  try clear c36
                  try clear c46
                  try clear c46b0
                  try clear c46b1
                  try clear c48
                  try clear c48b0
                  try clear c48b1
                  try clear c49
                  try clear c49b0
                  try clear c50
                  try clear c51
                  try clear c53
                  try clear c58
                  try clear c59
                  try clear c61
                  try clear p64
                  try clear c66
                  try clear c67
                  try clear c69
                  try clear c74
                  try clear c75
                  try clear c77
                  try clear c80
                  try clear c82
                  try clear c82b0
                  try clear c83
                  try clear c83b0
                  try clear c84
                  try clear c84b0
                  try clear c85
                  try clear c85b0
                  try clear c86
                  try clear c86b0
                  try clear c87
                  try clear c87b0
                  try clear c87b1
                  try clear c88
                  try clear c88b0
                  try clear c88b1
                  try clear c89
                  try clear c89b0
                  try clear c89b1
                  try clear c90
                  try clear c90b0
                  try clear c90b1
                  try clear c91
                  try clear c91b0
                  try clear c92
                  try clear c92b0
                  try clear c92b1
                  try clear c93
                  try clear c93b0
                  try clear c93b1
                  try clear c94
                  try clear c94b0
                  try clear c94b1
                  try clear c95
                  try clear c95b0
                  try clear c95b1
                  try clear c96
                  try clear c96b0
                  try clear c97
                  try clear c97b0
                  try clear c98
                  try clear c98b0
                  try clear c99
                  try clear c99b0
                  try clear c99b1
                  try clear c100
                  try clear c100b0
                  try clear c100b1
                  try clear c101
                  try clear c101b0
                  try clear c101b1
                  try clear c102
                  try clear c102b0
                  try clear c102b1
                  try clear c103
                  try clear c103b0
                  try clear c103b1
                  try clear c104
                  try clear c104b0
                  try clear c104b1
                  try clear hcz18_0
                  try clear hcz18_1
                  try clear hcz18_2
                  try clear hcz21_0
                  try clear hcz21_1
                  try clear hcz21_2
                  try clear hcz23_0
                  try clear hcz23_1
                  try clear hcz23_2
                  try clear hcz27_0
                  try clear hcz27_1
                  try clear hcz27_2
                  try clear hcz30_0
                  try clear hcz30_1
                  try clear hcz30_2
                  try clear hcz34_0
                  try clear hcz34_1
                  try clear hcz34_2
                  try clear hcz52_0
                  try clear hcz52_1
                  try clear hcz52_2
                  try clear hcz54_0
                  try clear hcz54_1
                  try clear hcz54_2
                  try clear hcz56_0
                  try clear hcz56_1
                  try clear hcz56_2
                  try clear hcz60_0
                  try clear hcz60_1
                  try clear hcz60_2
                  try clear hcz62_0
                  try clear hcz62_1
                  try clear hcz62_2
                  try clear hcz64_0
                  try clear hcz64_1
                  try clear hcz64_2
                  try clear hcz68_0
                  try clear hcz68_1
                  try clear hcz68_2
                  try clear hcz70_0
                  try clear hcz70_1
                  try clear hcz70_2
                  try clear hcz72_0
                  try clear hcz72_1
                  try clear hcz72_2
                  try clear hcz76_0
                  try clear hcz76_1
                  try clear hcz76_2
                  try clear hcz78_0
                  try clear hcz78_1
                  try clear hcz78_2
                  try clear hfz18_0
                  try clear hfz18_1
                  try clear hfz18_2
                  try clear hfz21_0
                  try clear hfz21_1
                  try clear hfz21_2
                  try clear hfz23_0
                  try clear hfz23_1
                  try clear hfz23_2
                  try clear hfz27_0
                  try clear hfz27_1
                  try clear hfz27_2
                  try clear hfz30_0
                  try clear hfz30_1
                  try clear hfz30_2
                  try clear hfz34_0
                  try clear hfz34_1
                  try clear hfz34_2
                  try clear hfz52_0
                  try clear hfz52_1
                  try clear hfz52_2
                  try clear hfz54_0
                  try clear hfz54_1
                  try clear hfz54_2
                  try clear hfz56_0
                  try clear hfz56_1
                  try clear hfz56_2
                  try clear hfz60_0
                  try clear hfz60_1
                  try clear hfz60_2
                  try clear hfz62_0
                  try clear hfz62_1
                  try clear hfz62_2
                  try clear hfz64_0
                  try clear hfz64_1
                  try clear hfz64_2
                  try clear hfz68_0
                  try clear hfz68_1
                  try clear hfz68_2
                  try clear hfz70_0
                  try clear hfz70_1
                  try clear hfz70_2
                  try clear hfz72_0
                  try clear hfz72_1
                  try clear hfz72_2
                  try clear hfz76_0
                  try clear hfz76_1
                  try clear hfz76_2
                  try clear hfz78_0
                  try clear hfz78_1
                  try clear hfz78_2
                  try clear p2
                  try clear p6
                  try clear p64
                  obtain ⟨kq, x88_80, rfl, HA, HJ80, BK101, BK102, BK103, HB⟩ := hcut
                  cases kq with
                  | zero => exact absurd HA.out (by simp [rabbetlaw1_ValueOrder.j2])
                  | succ kj80 =>
                    have H := HA.out
                    clear HA
                    simp only [rabbetlaw1_ValueOrder.j2] at H
                    by_cases c105 : x88_80 = true
                    · subst c105
                      have H1 : (some false) = some r := by rw [if_pos rfl] at H; exact H
                      clear H
                      have H := H1
                      clear H1
                      as_aux_lemma =>
                        obtain rfl := Option.some.inj H
                        go_wp2
                        go_ret
                        exact ⟨by first | rfl | (simp [errW_none, errW_some] <;> rfl) | (simp [*, errW_none, errW_some] <;> rfl), by repeat (first | (with_reducible first | exact HB.out | apply below_alloc | apply pw_below_drewN | apply below_drew1 | refine below_set ?_ GE101.out | refine below_set ?_ GE102.out | refine below_set ?_ GE103.out) | exact HB.out)⟩
                    · replace c105 := Bool.eq_false_iff.mpr c105
                      subst c105
                      have H1 : (if a0_0 = 0 then (if a1_0 = 0 then (if a0_0 = 4 then (if a1_0 = 4 then (if t108 = 0 then (if a0_0 = a1_0 then (if (a0_1 == a1_1 && (a0_2.toList == a1_2.toList)) = true then (some true) else (some false)) else (some false)) else (some true)) else (if t108 = 1 then (if t108 = 0 then (if a0_0 = a1_0 then (if (a0_1 == a1_1 && (a0_2.toList == a1_2.toList)) = true then (some true) else (some false)) else (some false)) else (some true)) else (some false))) else (if t108 = 0 then (if a0_0 = a1_0 then (if (a0_1 == a1_1 && (a0_2.toList == a1_2.toList)) = true then (some true) else (if a1_0 = 4 then (some false) else (some (a0_1 == a1_1)))) else (if a1_0 = 4 then (some false) else (some (a0_1 == a1_1)))) else (some true))) else (if t108 = (-1) then (if a0_0 = 4 then (if a1_0 = 4 then (if t108 = 0 then (if a0_0 = a1_0 then (if (a0_1 == a1_1 && (a0_2.toList == a1_2.toList)) = true then (some true) else (some false)) else (some false)) else (some true)) else (if t108 = 1 then (if t108 = 0 then (if a0_0 = a1_0 then (if (a0_1 == a1_1 && (a0_2.toList == a1_2.toList)) = true then (some true) else (some false)) else (some false)) else (some true)) else (some false))) else (if t108 = 0 then (if a0_0 = a1_0 then (if (a0_1 == a1_1 && (a0_2.toList == a1_2.toList)) = true then (some true) else (if a1_0 = 4 then (some false) else (some (a0_1 == a1_1)))) else (if a1_0 = 4 then (some false) else (some (a0_1 == a1_1)))) else (some true))) else (some false))) else (if a0_0 = 4 then (if a1_0 = 4 then (if t108 = 0 then (if a0_0 = a1_0 then (if (a0_1 == a1_1 && (a0_2.toList == a1_2.toList)) = true then (some true) else (some false)) else (some false)) else (some true)) else (if t108 = 1 then (if t108 = 0 then (if a0_0 = a1_0 then (if (a0_1 == a1_1 && (a0_2.toList == a1_2.toList)) = true then (some true) else (some false)) else (some false)) else (some true)) else (some false))) else (if t108 = 0 then (if a0_0 = a1_0 then (if (a0_1 == a1_1 && (a0_2.toList == a1_2.toList)) = true then (some true) else (if a1_0 = 4 then (some false) else (some (a0_1 == a1_1)))) else (if a1_0 = 4 then (some false) else (some (a0_1 == a1_1)))) else (some true)))) = some r := by rw [if_neg (show ¬ (false = true) by decide)] at H; exact H
                      clear H
                      have H := H1
                      clear H1
                      by_cases c106 : a0_0 = 0
                      · rw [if_pos c106] at H
                        have c106b0 : (a0_0 == 0) = true := beq_iff_eq.mpr c106
                        have c106b1 : (a0_0 != 0) = false := bne_eq_false_iff_eq.mpr c106
                        clear c106
                        by_cases c107 : a1_0 = 0
                        · rw [if_pos c107] at H
                          have c107b0 : (a1_0 == 0) = true := beq_iff_eq.mpr c107
                          have c107b1 : (a1_0 != 0) = false := bne_eq_false_iff_eq.mpr c107
                          clear c107
                          by_cases c108 : a0_0 = 4
                          · rw [if_pos c108] at H
                            have c108b0 : (a0_0 == 4) = true := beq_iff_eq.mpr c108
                            have c108b1 : (a0_0 != 4) = false := bne_eq_false_iff_eq.mpr c108
                            clear c108
                            by_cases c109 : a1_0 = 4
                            · rw [if_pos c109] at H
                              have c109b0 : (a1_0 == 4) = true := beq_iff_eq.mpr c109
                              have c109b1 : (a1_0 != 4) = false := bne_eq_false_iff_eq.mpr c109
                              clear c109
                              by_cases c110 : t108 = 0
                              · rw [if_pos c110] at H
                                have c110b0 : (t108 == 0) = true := beq_iff_eq.mpr c110
                                have c110b1 : (t108 != 0) = false := bne_eq_false_iff_eq.mpr c110
                                clear c110
                                by_cases c111 : a0_0 = a1_0
                                · rw [if_pos c111] at H
                                  have c111b0 : (a0_0 == a1_0) = true := beq_iff_eq.mpr c111
                                  have c111b1 : (a0_0 != a1_0) = false := bne_eq_false_iff_eq.mpr c111
                                  clear c111
                                  by_cases c112 : (a0_1 == a1_1 && (a0_2.toList == a1_2.toList)) = true
                                  · rw [if_pos c112] at H
                                    have c112b0 : (a0_1 == a1_1 && (a0_2.toList == a1_2.toList)) = true := c112
                                    (try (have c112b1 : decide (a0_1 = a1_1 && (a0_2.toList == a1_2.toList)) = true := by simpa using c112))
                                    (try (have c112b2 : (a0_1 == a1_1 && (a0_2.toList == a1_2.toList)) = true := by simpa using c112))
                                    clear c112
                                    as_aux_lemma =>
                                      obtain rfl := Option.some.inj H
                                      have hnb113 := NB101_102.out
                                      have hnc113 := NB102_101.out
                                      have hnb114 := NB101_103.out
                                      have hnc114 := NB103_101.out
                                      have hcz115_0 : wc.cell? ⟨gb101, 0, none⟩ = some (.int .i64 a0_0) := (blk_cell BK101.out 0).trans rfl
                                      have hcz115_1 : wc.cell? ⟨gb101, 1, none⟩ = some (.int .i64 a0_1) := (blk_cell BK101.out 1).trans rfl
                                      have hcz115_2 : wc.cell? ⟨gb101, 2, none⟩ = some (.string a0_2) := (blk_cell BK101.out 2).trans rfl
                                      have hfz115_0 := blk_frozen BK101.out 0
                                      have hfz115_1 := blk_frozen BK101.out 1
                                      have hfz115_2 := blk_frozen BK101.out 2
                                      have hnb116 := NB102_103.out
                                      have hnc116 := NB103_102.out
                                      have hcz117_0 : wc.cell? ⟨gb102, 0, none⟩ = some (.int .i64 a1_0) := (blk_cell BK102.out 0).trans rfl
                                      have hcz117_1 : wc.cell? ⟨gb102, 1, none⟩ = some (.int .i64 a1_1) := (blk_cell BK102.out 1).trans rfl
                                      have hcz117_2 : wc.cell? ⟨gb102, 2, none⟩ = some (.string a1_2) := (blk_cell BK102.out 2).trans rfl
                                      have hfz117_0 := blk_frozen BK102.out 0
                                      have hfz117_1 := blk_frozen BK102.out 1
                                      have hfz117_2 := blk_frozen BK102.out 2
                                      go_wp2
                                      go_ret
                                      exact ⟨by first | rfl | (simp [errW_none, errW_some] <;> rfl) | (simp [*, errW_none, errW_some] <;> rfl), by repeat (first | (with_reducible first | exact HB.out | apply below_alloc | apply pw_below_drewN | apply below_drew1 | refine below_set ?_ GE101.out | refine below_set ?_ GE102.out | refine below_set ?_ GE103.out) | exact HB.out)⟩
                                  · rw [if_neg c112] at H
                                    have c112b0 : (a0_1 == a1_1 && (a0_2.toList == a1_2.toList)) = false := by simpa using c112
                                    (try (have c112b1 : decide (a0_1 = a1_1 && (a0_2.toList == a1_2.toList)) = false := by simpa using c112))
                                    (try (have c112b2 : (a0_1 == a1_1 && (a0_2.toList == a1_2.toList)) = false := by simpa using c112))
                                    (try (have c112b3 : ¬ (a0_1 = a1_1 && (a0_2.toList == a1_2.toList)) := by simpa using c112))
                                    clear c112
                                    as_aux_lemma =>
                                      obtain rfl := Option.some.inj H
                                      have hnb118 := NB101_102.out
                                      have hnc118 := NB102_101.out
                                      have hnb119 := NB101_103.out
                                      have hnc119 := NB103_101.out
                                      have hcz120_0 : wc.cell? ⟨gb101, 0, none⟩ = some (.int .i64 a0_0) := (blk_cell BK101.out 0).trans rfl
                                      have hcz120_1 : wc.cell? ⟨gb101, 1, none⟩ = some (.int .i64 a0_1) := (blk_cell BK101.out 1).trans rfl
                                      have hcz120_2 : wc.cell? ⟨gb101, 2, none⟩ = some (.string a0_2) := (blk_cell BK101.out 2).trans rfl
                                      have hfz120_0 := blk_frozen BK101.out 0
                                      have hfz120_1 := blk_frozen BK101.out 1
                                      have hfz120_2 := blk_frozen BK101.out 2
                                      have hnb121 := NB102_103.out
                                      have hnc121 := NB103_102.out
                                      have hcz122_0 : wc.cell? ⟨gb102, 0, none⟩ = some (.int .i64 a1_0) := (blk_cell BK102.out 0).trans rfl
                                      have hcz122_1 : wc.cell? ⟨gb102, 1, none⟩ = some (.int .i64 a1_1) := (blk_cell BK102.out 1).trans rfl
                                      have hcz122_2 : wc.cell? ⟨gb102, 2, none⟩ = some (.string a1_2) := (blk_cell BK102.out 2).trans rfl
                                      have hfz122_0 := blk_frozen BK102.out 0
                                      have hfz122_1 := blk_frozen BK102.out 1
                                      have hfz122_2 := blk_frozen BK102.out 2
                                      go_wp2
                                      go_ret
                                      exact ⟨by first | rfl | (simp [errW_none, errW_some] <;> rfl) | (simp [*, errW_none, errW_some] <;> rfl), by repeat (first | (with_reducible first | exact HB.out | apply below_alloc | apply pw_below_drewN | apply below_drew1 | refine below_set ?_ GE101.out | refine below_set ?_ GE102.out | refine below_set ?_ GE103.out) | exact HB.out)⟩
                                · rw [if_neg c111] at H
                                  have c111b0 : (a0_0 == a1_0) = false := beq_eq_false_iff_ne.mpr c111
                                  have c111b1 : (a0_0 != a1_0) = true := bne_iff_ne.mpr c111
                                  as_aux_lemma =>
                                    obtain rfl := Option.some.inj H
                                    have hnb123 := NB101_102.out
                                    have hnc123 := NB102_101.out
                                    have hnb124 := NB101_103.out
                                    have hnc124 := NB103_101.out
                                    have hcz125_0 : wc.cell? ⟨gb101, 0, none⟩ = some (.int .i64 a0_0) := (blk_cell BK101.out 0).trans rfl
                                    have hcz125_1 : wc.cell? ⟨gb101, 1, none⟩ = some (.int .i64 a0_1) := (blk_cell BK101.out 1).trans rfl
                                    have hcz125_2 : wc.cell? ⟨gb101, 2, none⟩ = some (.string a0_2) := (blk_cell BK101.out 2).trans rfl
                                    have hfz125_0 := blk_frozen BK101.out 0
                                    have hfz125_1 := blk_frozen BK101.out 1
                                    have hfz125_2 := blk_frozen BK101.out 2
                                    have hnb126 := NB102_103.out
                                    have hnc126 := NB103_102.out
                                    have hcz127_0 : wc.cell? ⟨gb102, 0, none⟩ = some (.int .i64 a1_0) := (blk_cell BK102.out 0).trans rfl
                                    have hcz127_1 : wc.cell? ⟨gb102, 1, none⟩ = some (.int .i64 a1_1) := (blk_cell BK102.out 1).trans rfl
                                    have hcz127_2 : wc.cell? ⟨gb102, 2, none⟩ = some (.string a1_2) := (blk_cell BK102.out 2).trans rfl
                                    have hfz127_0 := blk_frozen BK102.out 0
                                    have hfz127_1 := blk_frozen BK102.out 1
                                    have hfz127_2 := blk_frozen BK102.out 2
                                    go_wp2
                                    go_ret
                                    exact ⟨by first | rfl | (simp [errW_none, errW_some] <;> rfl) | (simp [*, errW_none, errW_some] <;> rfl), by repeat (first | (with_reducible first | exact HB.out | apply below_alloc | apply pw_below_drewN | apply below_drew1 | refine below_set ?_ GE101.out | refine below_set ?_ GE102.out | refine below_set ?_ GE103.out) | exact HB.out)⟩
                              · rw [if_neg c110] at H
                                have c110b0 : (t108 == 0) = false := beq_eq_false_iff_ne.mpr c110
                                have c110b1 : (t108 != 0) = true := bne_iff_ne.mpr c110
                                as_aux_lemma =>
                                  obtain rfl := Option.some.inj H
                                  have hnb128 := NB101_102.out
                                  have hnc128 := NB102_101.out
                                  have hnb129 := NB101_103.out
                                  have hnc129 := NB103_101.out
                                  have hcz130_0 : wc.cell? ⟨gb101, 0, none⟩ = some (.int .i64 a0_0) := (blk_cell BK101.out 0).trans rfl
                                  have hcz130_1 : wc.cell? ⟨gb101, 1, none⟩ = some (.int .i64 a0_1) := (blk_cell BK101.out 1).trans rfl
                                  have hcz130_2 : wc.cell? ⟨gb101, 2, none⟩ = some (.string a0_2) := (blk_cell BK101.out 2).trans rfl
                                  have hfz130_0 := blk_frozen BK101.out 0
                                  have hfz130_1 := blk_frozen BK101.out 1
                                  have hfz130_2 := blk_frozen BK101.out 2
                                  have hnb131 := NB102_103.out
                                  have hnc131 := NB103_102.out
                                  have hcz132_0 : wc.cell? ⟨gb102, 0, none⟩ = some (.int .i64 a1_0) := (blk_cell BK102.out 0).trans rfl
                                  have hcz132_1 : wc.cell? ⟨gb102, 1, none⟩ = some (.int .i64 a1_1) := (blk_cell BK102.out 1).trans rfl
                                  have hcz132_2 : wc.cell? ⟨gb102, 2, none⟩ = some (.string a1_2) := (blk_cell BK102.out 2).trans rfl
                                  have hfz132_0 := blk_frozen BK102.out 0
                                  have hfz132_1 := blk_frozen BK102.out 1
                                  have hfz132_2 := blk_frozen BK102.out 2
                                  go_wp2
                                  go_ret
                                  exact ⟨by first | rfl | (simp [errW_none, errW_some] <;> rfl) | (simp [*, errW_none, errW_some] <;> rfl), by repeat (first | (with_reducible first | exact HB.out | apply below_alloc | apply pw_below_drewN | apply below_drew1 | refine below_set ?_ GE101.out | refine below_set ?_ GE102.out | refine below_set ?_ GE103.out) | exact HB.out)⟩
                            · rw [if_neg c109] at H
                              have c109b0 : (a1_0 == 4) = false := beq_eq_false_iff_ne.mpr c109
                              have c109b1 : (a1_0 != 4) = true := bne_iff_ne.mpr c109
                              by_cases c133 : t108 = 1
                              · rw [if_pos c133] at H
                                have c133b0 : (t108 == 1) = true := beq_iff_eq.mpr c133
                                have c133b1 : (t108 != 1) = false := bne_eq_false_iff_eq.mpr c133
                                clear c133
                                by_cases c134 : t108 = 0
                                · rw [if_pos c134] at H
                                  have c134b0 : (t108 == 0) = true := beq_iff_eq.mpr c134
                                  have c134b1 : (t108 != 0) = false := bne_eq_false_iff_eq.mpr c134
                                  clear c134
                                  by_cases c135 : a0_0 = a1_0
                                  · rw [if_pos c135] at H
                                    have c135b0 : (a0_0 == a1_0) = true := beq_iff_eq.mpr c135
                                    have c135b1 : (a0_0 != a1_0) = false := bne_eq_false_iff_eq.mpr c135
                                    clear c135
                                    by_cases c136 : (a0_1 == a1_1 && (a0_2.toList == a1_2.toList)) = true
                                    · rw [if_pos c136] at H
                                      have c136b0 : (a0_1 == a1_1 && (a0_2.toList == a1_2.toList)) = true := c136
                                      (try (have c136b1 : decide (a0_1 = a1_1 && (a0_2.toList == a1_2.toList)) = true := by simpa using c136))
                                      (try (have c136b2 : (a0_1 == a1_1 && (a0_2.toList == a1_2.toList)) = true := by simpa using c136))
                                      clear c136
                                      as_aux_lemma =>
                                        obtain rfl := Option.some.inj H
                                        have hnb137 := NB101_102.out
                                        have hnc137 := NB102_101.out
                                        have hnb138 := NB101_103.out
                                        have hnc138 := NB103_101.out
                                        have hcz139_0 : wc.cell? ⟨gb101, 0, none⟩ = some (.int .i64 a0_0) := (blk_cell BK101.out 0).trans rfl
                                        have hcz139_1 : wc.cell? ⟨gb101, 1, none⟩ = some (.int .i64 a0_1) := (blk_cell BK101.out 1).trans rfl
                                        have hcz139_2 : wc.cell? ⟨gb101, 2, none⟩ = some (.string a0_2) := (blk_cell BK101.out 2).trans rfl
                                        have hfz139_0 := blk_frozen BK101.out 0
                                        have hfz139_1 := blk_frozen BK101.out 1
                                        have hfz139_2 := blk_frozen BK101.out 2
                                        have hnb140 := NB102_103.out
                                        have hnc140 := NB103_102.out
                                        have hcz141_0 : wc.cell? ⟨gb102, 0, none⟩ = some (.int .i64 a1_0) := (blk_cell BK102.out 0).trans rfl
                                        have hcz141_1 : wc.cell? ⟨gb102, 1, none⟩ = some (.int .i64 a1_1) := (blk_cell BK102.out 1).trans rfl
                                        have hcz141_2 : wc.cell? ⟨gb102, 2, none⟩ = some (.string a1_2) := (blk_cell BK102.out 2).trans rfl
                                        have hfz141_0 := blk_frozen BK102.out 0
                                        have hfz141_1 := blk_frozen BK102.out 1
                                        have hfz141_2 := blk_frozen BK102.out 2
                                        go_wp2
                                        go_ret
                                        exact ⟨by first | rfl | (simp [errW_none, errW_some] <;> rfl) | (simp [*, errW_none, errW_some] <;> rfl), by repeat (first | (with_reducible first | exact HB.out | apply below_alloc | apply pw_below_drewN | apply below_drew1 | refine below_set ?_ GE101.out | refine below_set ?_ GE102.out | refine below_set ?_ GE103.out) | exact HB.out)⟩
                                    · rw [if_neg c136] at H
                                      have c136b0 : (a0_1 == a1_1 && (a0_2.toList == a1_2.toList)) = false := by simpa using c136
                                      (try (have c136b1 : decide (a0_1 = a1_1 && (a0_2.toList == a1_2.toList)) = false := by simpa using c136))
                                      (try (have c136b2 : (a0_1 == a1_1 && (a0_2.toList == a1_2.toList)) = false := by simpa using c136))
                                      (try (have c136b3 : ¬ (a0_1 = a1_1 && (a0_2.toList == a1_2.toList)) := by simpa using c136))
                                      clear c136
                                      as_aux_lemma =>
                                        obtain rfl := Option.some.inj H
                                        have hnb142 := NB101_102.out
                                        have hnc142 := NB102_101.out
                                        have hnb143 := NB101_103.out
                                        have hnc143 := NB103_101.out
                                        have hcz144_0 : wc.cell? ⟨gb101, 0, none⟩ = some (.int .i64 a0_0) := (blk_cell BK101.out 0).trans rfl
                                        have hcz144_1 : wc.cell? ⟨gb101, 1, none⟩ = some (.int .i64 a0_1) := (blk_cell BK101.out 1).trans rfl
                                        have hcz144_2 : wc.cell? ⟨gb101, 2, none⟩ = some (.string a0_2) := (blk_cell BK101.out 2).trans rfl
                                        have hfz144_0 := blk_frozen BK101.out 0
                                        have hfz144_1 := blk_frozen BK101.out 1
                                        have hfz144_2 := blk_frozen BK101.out 2
                                        have hnb145 := NB102_103.out
                                        have hnc145 := NB103_102.out
                                        have hcz146_0 : wc.cell? ⟨gb102, 0, none⟩ = some (.int .i64 a1_0) := (blk_cell BK102.out 0).trans rfl
                                        have hcz146_1 : wc.cell? ⟨gb102, 1, none⟩ = some (.int .i64 a1_1) := (blk_cell BK102.out 1).trans rfl
                                        have hcz146_2 : wc.cell? ⟨gb102, 2, none⟩ = some (.string a1_2) := (blk_cell BK102.out 2).trans rfl
                                        have hfz146_0 := blk_frozen BK102.out 0
                                        have hfz146_1 := blk_frozen BK102.out 1
                                        have hfz146_2 := blk_frozen BK102.out 2
                                        go_wp2
                                        go_ret
                                        exact ⟨by first | rfl | (simp [errW_none, errW_some] <;> rfl) | (simp [*, errW_none, errW_some] <;> rfl), by repeat (first | (with_reducible first | exact HB.out | apply below_alloc | apply pw_below_drewN | apply below_drew1 | refine below_set ?_ GE101.out | refine below_set ?_ GE102.out | refine below_set ?_ GE103.out) | exact HB.out)⟩
                                  · rw [if_neg c135] at H
                                    have c135b0 : (a0_0 == a1_0) = false := beq_eq_false_iff_ne.mpr c135
                                    have c135b1 : (a0_0 != a1_0) = true := bne_iff_ne.mpr c135
                                    as_aux_lemma =>
                                      obtain rfl := Option.some.inj H
                                      have hnb147 := NB101_102.out
                                      have hnc147 := NB102_101.out
                                      have hnb148 := NB101_103.out
                                      have hnc148 := NB103_101.out
                                      have hcz149_0 : wc.cell? ⟨gb101, 0, none⟩ = some (.int .i64 a0_0) := (blk_cell BK101.out 0).trans rfl
                                      have hcz149_1 : wc.cell? ⟨gb101, 1, none⟩ = some (.int .i64 a0_1) := (blk_cell BK101.out 1).trans rfl
                                      have hcz149_2 : wc.cell? ⟨gb101, 2, none⟩ = some (.string a0_2) := (blk_cell BK101.out 2).trans rfl
                                      have hfz149_0 := blk_frozen BK101.out 0
                                      have hfz149_1 := blk_frozen BK101.out 1
                                      have hfz149_2 := blk_frozen BK101.out 2
                                      have hnb150 := NB102_103.out
                                      have hnc150 := NB103_102.out
                                      have hcz151_0 : wc.cell? ⟨gb102, 0, none⟩ = some (.int .i64 a1_0) := (blk_cell BK102.out 0).trans rfl
                                      have hcz151_1 : wc.cell? ⟨gb102, 1, none⟩ = some (.int .i64 a1_1) := (blk_cell BK102.out 1).trans rfl
                                      have hcz151_2 : wc.cell? ⟨gb102, 2, none⟩ = some (.string a1_2) := (blk_cell BK102.out 2).trans rfl
                                      have hfz151_0 := blk_frozen BK102.out 0
                                      have hfz151_1 := blk_frozen BK102.out 1
                                      have hfz151_2 := blk_frozen BK102.out 2
                                      go_wp2
                                      go_ret
                                      exact ⟨by first | rfl | (simp [errW_none, errW_some] <;> rfl) | (simp [*, errW_none, errW_some] <;> rfl), by repeat (first | (with_reducible first | exact HB.out | apply below_alloc | apply pw_below_drewN | apply below_drew1 | refine below_set ?_ GE101.out | refine below_set ?_ GE102.out | refine below_set ?_ GE103.out) | exact HB.out)⟩
                                · rw [if_neg c134] at H
                                  have c134b0 : (t108 == 0) = false := beq_eq_false_iff_ne.mpr c134
                                  have c134b1 : (t108 != 0) = true := bne_iff_ne.mpr c134
                                  as_aux_lemma =>
                                    obtain rfl := Option.some.inj H
                                    have hnb152 := NB101_102.out
                                    have hnc152 := NB102_101.out
                                    have hnb153 := NB101_103.out
                                    have hnc153 := NB103_101.out
                                    have hcz154_0 : wc.cell? ⟨gb101, 0, none⟩ = some (.int .i64 a0_0) := (blk_cell BK101.out 0).trans rfl
                                    have hcz154_1 : wc.cell? ⟨gb101, 1, none⟩ = some (.int .i64 a0_1) := (blk_cell BK101.out 1).trans rfl
                                    have hcz154_2 : wc.cell? ⟨gb101, 2, none⟩ = some (.string a0_2) := (blk_cell BK101.out 2).trans rfl
                                    have hfz154_0 := blk_frozen BK101.out 0
                                    have hfz154_1 := blk_frozen BK101.out 1
                                    have hfz154_2 := blk_frozen BK101.out 2
                                    have hnb155 := NB102_103.out
                                    have hnc155 := NB103_102.out
                                    have hcz156_0 : wc.cell? ⟨gb102, 0, none⟩ = some (.int .i64 a1_0) := (blk_cell BK102.out 0).trans rfl
                                    have hcz156_1 : wc.cell? ⟨gb102, 1, none⟩ = some (.int .i64 a1_1) := (blk_cell BK102.out 1).trans rfl
                                    have hcz156_2 : wc.cell? ⟨gb102, 2, none⟩ = some (.string a1_2) := (blk_cell BK102.out 2).trans rfl
                                    have hfz156_0 := blk_frozen BK102.out 0
                                    have hfz156_1 := blk_frozen BK102.out 1
                                    have hfz156_2 := blk_frozen BK102.out 2
                                    go_wp2
                                    go_ret
                                    exact ⟨by first | rfl | (simp [errW_none, errW_some] <;> rfl) | (simp [*, errW_none, errW_some] <;> rfl), by repeat (first | (with_reducible first | exact HB.out | apply below_alloc | apply pw_below_drewN | apply below_drew1 | refine below_set ?_ GE101.out | refine below_set ?_ GE102.out | refine below_set ?_ GE103.out) | exact HB.out)⟩
                              · rw [if_neg c133] at H
                                have c133b0 : (t108 == 1) = false := beq_eq_false_iff_ne.mpr c133
                                have c133b1 : (t108 != 1) = true := bne_iff_ne.mpr c133
                                as_aux_lemma =>
                                  obtain rfl := Option.some.inj H
                                  have hnb157 := NB101_102.out
                                  have hnc157 := NB102_101.out
                                  have hnb158 := NB101_103.out
                                  have hnc158 := NB103_101.out
                                  have hcz159_0 : wc.cell? ⟨gb101, 0, none⟩ = some (.int .i64 a0_0) := (blk_cell BK101.out 0).trans rfl
                                  have hcz159_1 : wc.cell? ⟨gb101, 1, none⟩ = some (.int .i64 a0_1) := (blk_cell BK101.out 1).trans rfl
                                  have hcz159_2 : wc.cell? ⟨gb101, 2, none⟩ = some (.string a0_2) := (blk_cell BK101.out 2).trans rfl
                                  have hfz159_0 := blk_frozen BK101.out 0
                                  have hfz159_1 := blk_frozen BK101.out 1
                                  have hfz159_2 := blk_frozen BK101.out 2
                                  have hnb160 := NB102_103.out
                                  have hnc160 := NB103_102.out
                                  have hcz161_0 : wc.cell? ⟨gb102, 0, none⟩ = some (.int .i64 a1_0) := (blk_cell BK102.out 0).trans rfl
                                  have hcz161_1 : wc.cell? ⟨gb102, 1, none⟩ = some (.int .i64 a1_1) := (blk_cell BK102.out 1).trans rfl
                                  have hcz161_2 : wc.cell? ⟨gb102, 2, none⟩ = some (.string a1_2) := (blk_cell BK102.out 2).trans rfl
                                  have hfz161_0 := blk_frozen BK102.out 0
                                  have hfz161_1 := blk_frozen BK102.out 1
                                  have hfz161_2 := blk_frozen BK102.out 2
                                  go_wp2
                                  go_ret
                                  exact ⟨by first | rfl | (simp [errW_none, errW_some] <;> rfl) | (simp [*, errW_none, errW_some] <;> rfl), by repeat (first | (with_reducible first | exact HB.out | apply below_alloc | apply pw_below_drewN | apply below_drew1 | refine below_set ?_ GE101.out | refine below_set ?_ GE102.out | refine below_set ?_ GE103.out) | exact HB.out)⟩
                          · rw [if_neg c108] at H
                            have c108b0 : (a0_0 == 4) = false := beq_eq_false_iff_ne.mpr c108
                            have c108b1 : (a0_0 != 4) = true := bne_iff_ne.mpr c108
                            by_cases c162 : t108 = 0
                            · rw [if_pos c162] at H
                              have c162b0 : (t108 == 0) = true := beq_iff_eq.mpr c162
                              have c162b1 : (t108 != 0) = false := bne_eq_false_iff_eq.mpr c162
                              clear c162
                              by_cases c163 : a0_0 = a1_0
                              · rw [if_pos c163] at H
                                have c163b0 : (a0_0 == a1_0) = true := beq_iff_eq.mpr c163
                                have c163b1 : (a0_0 != a1_0) = false := bne_eq_false_iff_eq.mpr c163
                                clear c163
                                by_cases c164 : (a0_1 == a1_1 && (a0_2.toList == a1_2.toList)) = true
                                · rw [if_pos c164] at H
                                  have c164b0 : (a0_1 == a1_1 && (a0_2.toList == a1_2.toList)) = true := c164
                                  (try (have c164b1 : decide (a0_1 = a1_1 && (a0_2.toList == a1_2.toList)) = true := by simpa using c164))
                                  (try (have c164b2 : (a0_1 == a1_1 && (a0_2.toList == a1_2.toList)) = true := by simpa using c164))
                                  clear c164
                                  as_aux_lemma =>
                                    obtain rfl := Option.some.inj H
                                    have hnb165 := NB101_102.out
                                    have hnc165 := NB102_101.out
                                    have hnb166 := NB101_103.out
                                    have hnc166 := NB103_101.out
                                    have hcz167_0 : wc.cell? ⟨gb101, 0, none⟩ = some (.int .i64 a0_0) := (blk_cell BK101.out 0).trans rfl
                                    have hcz167_1 : wc.cell? ⟨gb101, 1, none⟩ = some (.int .i64 a0_1) := (blk_cell BK101.out 1).trans rfl
                                    have hcz167_2 : wc.cell? ⟨gb101, 2, none⟩ = some (.string a0_2) := (blk_cell BK101.out 2).trans rfl
                                    have hfz167_0 := blk_frozen BK101.out 0
                                    have hfz167_1 := blk_frozen BK101.out 1
                                    have hfz167_2 := blk_frozen BK101.out 2
                                    have hnb168 := NB102_103.out
                                    have hnc168 := NB103_102.out
                                    have hcz169_0 : wc.cell? ⟨gb102, 0, none⟩ = some (.int .i64 a1_0) := (blk_cell BK102.out 0).trans rfl
                                    have hcz169_1 : wc.cell? ⟨gb102, 1, none⟩ = some (.int .i64 a1_1) := (blk_cell BK102.out 1).trans rfl
                                    have hcz169_2 : wc.cell? ⟨gb102, 2, none⟩ = some (.string a1_2) := (blk_cell BK102.out 2).trans rfl
                                    have hfz169_0 := blk_frozen BK102.out 0
                                    have hfz169_1 := blk_frozen BK102.out 1
                                    have hfz169_2 := blk_frozen BK102.out 2
                                    go_wp2
                                    go_ret
                                    exact ⟨by first | rfl | (simp [errW_none, errW_some] <;> rfl) | (simp [*, errW_none, errW_some] <;> rfl), by repeat (first | (with_reducible first | exact HB.out | apply below_alloc | apply pw_below_drewN | apply below_drew1 | refine below_set ?_ GE101.out | refine below_set ?_ GE102.out | refine below_set ?_ GE103.out) | exact HB.out)⟩
                                · rw [if_neg c164] at H
                                  have c164b0 : (a0_1 == a1_1 && (a0_2.toList == a1_2.toList)) = false := by simpa using c164
                                  (try (have c164b1 : decide (a0_1 = a1_1 && (a0_2.toList == a1_2.toList)) = false := by simpa using c164))
                                  (try (have c164b2 : (a0_1 == a1_1 && (a0_2.toList == a1_2.toList)) = false := by simpa using c164))
                                  (try (have c164b3 : ¬ (a0_1 = a1_1 && (a0_2.toList == a1_2.toList)) := by simpa using c164))
                                  clear c164
                                  by_cases c170 : a1_0 = 4
                                  · rw [if_pos c170] at H
                                    have c170b0 : (a1_0 == 4) = true := beq_iff_eq.mpr c170
                                    have c170b1 : (a1_0 != 4) = false := bne_eq_false_iff_eq.mpr c170
                                    clear c170
                                    as_aux_lemma =>
                                      obtain rfl := Option.some.inj H
                                      have hnb171 := NB101_102.out
                                      have hnc171 := NB102_101.out
                                      have hnb172 := NB101_103.out
                                      have hnc172 := NB103_101.out
                                      have hcz173_0 : wc.cell? ⟨gb101, 0, none⟩ = some (.int .i64 a0_0) := (blk_cell BK101.out 0).trans rfl
                                      have hcz173_1 : wc.cell? ⟨gb101, 1, none⟩ = some (.int .i64 a0_1) := (blk_cell BK101.out 1).trans rfl
                                      have hcz173_2 : wc.cell? ⟨gb101, 2, none⟩ = some (.string a0_2) := (blk_cell BK101.out 2).trans rfl
                                      have hfz173_0 := blk_frozen BK101.out 0
                                      have hfz173_1 := blk_frozen BK101.out 1
                                      have hfz173_2 := blk_frozen BK101.out 2
                                      have hnb174 := NB102_103.out
                                      have hnc174 := NB103_102.out
                                      have hcz175_0 : wc.cell? ⟨gb102, 0, none⟩ = some (.int .i64 a1_0) := (blk_cell BK102.out 0).trans rfl
                                      have hcz175_1 : wc.cell? ⟨gb102, 1, none⟩ = some (.int .i64 a1_1) := (blk_cell BK102.out 1).trans rfl
                                      have hcz175_2 : wc.cell? ⟨gb102, 2, none⟩ = some (.string a1_2) := (blk_cell BK102.out 2).trans rfl
                                      have hfz175_0 := blk_frozen BK102.out 0
                                      have hfz175_1 := blk_frozen BK102.out 1
                                      have hfz175_2 := blk_frozen BK102.out 2
                                      go_wp2
                                      go_ret
                                      exact ⟨by first | rfl | (simp [errW_none, errW_some] <;> rfl) | (simp [*, errW_none, errW_some] <;> rfl), by repeat (first | (with_reducible first | exact HB.out | apply below_alloc | apply pw_below_drewN | apply below_drew1 | refine below_set ?_ GE101.out | refine below_set ?_ GE102.out | refine below_set ?_ GE103.out) | exact HB.out)⟩
                                  · rw [if_neg c170] at H
                                    have c170b0 : (a1_0 == 4) = false := beq_eq_false_iff_ne.mpr c170
                                    have c170b1 : (a1_0 != 4) = true := bne_iff_ne.mpr c170
                                    as_aux_lemma =>
                                      obtain rfl := Option.some.inj H
                                      have hnb176 := NB101_102.out
                                      have hnc176 := NB102_101.out
                                      have hnb177 := NB101_103.out
                                      have hnc177 := NB103_101.out
                                      have hcz178_0 : wc.cell? ⟨gb101, 0, none⟩ = some (.int .i64 a0_0) := (blk_cell BK101.out 0).trans rfl
                                      have hcz178_1 : wc.cell? ⟨gb101, 1, none⟩ = some (.int .i64 a0_1) := (blk_cell BK101.out 1).trans rfl
                                      have hcz178_2 : wc.cell? ⟨gb101, 2, none⟩ = some (.string a0_2) := (blk_cell BK101.out 2).trans rfl
                                      have hfz178_0 := blk_frozen BK101.out 0
                                      have hfz178_1 := blk_frozen BK101.out 1
                                      have hfz178_2 := blk_frozen BK101.out 2
                                      have hnb179 := NB102_103.out
                                      have hnc179 := NB103_102.out
                                      have hcz180_0 : wc.cell? ⟨gb102, 0, none⟩ = some (.int .i64 a1_0) := (blk_cell BK102.out 0).trans rfl
                                      have hcz180_1 : wc.cell? ⟨gb102, 1, none⟩ = some (.int .i64 a1_1) := (blk_cell BK102.out 1).trans rfl
                                      have hcz180_2 : wc.cell? ⟨gb102, 2, none⟩ = some (.string a1_2) := (blk_cell BK102.out 2).trans rfl
                                      have hfz180_0 := blk_frozen BK102.out 0
                                      have hfz180_1 := blk_frozen BK102.out 1
                                      have hfz180_2 := blk_frozen BK102.out 2
                                      go_wp2
                                      go_ret
                                      exact ⟨by first | rfl | (simp [errW_none, errW_some] <;> rfl) | (simp [*, errW_none, errW_some] <;> rfl), by repeat (first | (with_reducible first | exact HB.out | apply below_alloc | apply pw_below_drewN | apply below_drew1 | refine below_set ?_ GE101.out | refine below_set ?_ GE102.out | refine below_set ?_ GE103.out) | exact HB.out)⟩
                              · rw [if_neg c163] at H
                                have c163b0 : (a0_0 == a1_0) = false := beq_eq_false_iff_ne.mpr c163
                                have c163b1 : (a0_0 != a1_0) = true := bne_iff_ne.mpr c163
                                by_cases c181 : a1_0 = 4
                                · rw [if_pos c181] at H
                                  have c181b0 : (a1_0 == 4) = true := beq_iff_eq.mpr c181
                                  have c181b1 : (a1_0 != 4) = false := bne_eq_false_iff_eq.mpr c181
                                  clear c181
                                  as_aux_lemma =>
                                    obtain rfl := Option.some.inj H
                                    have hnb182 := NB101_102.out
                                    have hnc182 := NB102_101.out
                                    have hnb183 := NB101_103.out
                                    have hnc183 := NB103_101.out
                                    have hcz184_0 : wc.cell? ⟨gb101, 0, none⟩ = some (.int .i64 a0_0) := (blk_cell BK101.out 0).trans rfl
                                    have hcz184_1 : wc.cell? ⟨gb101, 1, none⟩ = some (.int .i64 a0_1) := (blk_cell BK101.out 1).trans rfl
                                    have hcz184_2 : wc.cell? ⟨gb101, 2, none⟩ = some (.string a0_2) := (blk_cell BK101.out 2).trans rfl
                                    have hfz184_0 := blk_frozen BK101.out 0
                                    have hfz184_1 := blk_frozen BK101.out 1
                                    have hfz184_2 := blk_frozen BK101.out 2
                                    have hnb185 := NB102_103.out
                                    have hnc185 := NB103_102.out
                                    have hcz186_0 : wc.cell? ⟨gb102, 0, none⟩ = some (.int .i64 a1_0) := (blk_cell BK102.out 0).trans rfl
                                    have hcz186_1 : wc.cell? ⟨gb102, 1, none⟩ = some (.int .i64 a1_1) := (blk_cell BK102.out 1).trans rfl
                                    have hcz186_2 : wc.cell? ⟨gb102, 2, none⟩ = some (.string a1_2) := (blk_cell BK102.out 2).trans rfl
                                    have hfz186_0 := blk_frozen BK102.out 0
                                    have hfz186_1 := blk_frozen BK102.out 1
                                    have hfz186_2 := blk_frozen BK102.out 2
                                    go_wp2
                                    go_ret
                                    exact ⟨by first | rfl | (simp [errW_none, errW_some] <;> rfl) | (simp [*, errW_none, errW_some] <;> rfl), by repeat (first | (with_reducible first | exact HB.out | apply below_alloc | apply pw_below_drewN | apply below_drew1 | refine below_set ?_ GE101.out | refine below_set ?_ GE102.out | refine below_set ?_ GE103.out) | exact HB.out)⟩
                                · rw [if_neg c181] at H
                                  have c181b0 : (a1_0 == 4) = false := beq_eq_false_iff_ne.mpr c181
                                  have c181b1 : (a1_0 != 4) = true := bne_iff_ne.mpr c181
                                  as_aux_lemma =>
                                    obtain rfl := Option.some.inj H
                                    have hnb187 := NB101_102.out
                                    have hnc187 := NB102_101.out
                                    have hnb188 := NB101_103.out
                                    have hnc188 := NB103_101.out
                                    have hcz189_0 : wc.cell? ⟨gb101, 0, none⟩ = some (.int .i64 a0_0) := (blk_cell BK101.out 0).trans rfl
                                    have hcz189_1 : wc.cell? ⟨gb101, 1, none⟩ = some (.int .i64 a0_1) := (blk_cell BK101.out 1).trans rfl
                                    have hcz189_2 : wc.cell? ⟨gb101, 2, none⟩ = some (.string a0_2) := (blk_cell BK101.out 2).trans rfl
                                    have hfz189_0 := blk_frozen BK101.out 0
                                    have hfz189_1 := blk_frozen BK101.out 1
                                    have hfz189_2 := blk_frozen BK101.out 2
                                    have hnb190 := NB102_103.out
                                    have hnc190 := NB103_102.out
                                    have hcz191_0 : wc.cell? ⟨gb102, 0, none⟩ = some (.int .i64 a1_0) := (blk_cell BK102.out 0).trans rfl
                                    have hcz191_1 : wc.cell? ⟨gb102, 1, none⟩ = some (.int .i64 a1_1) := (blk_cell BK102.out 1).trans rfl
                                    have hcz191_2 : wc.cell? ⟨gb102, 2, none⟩ = some (.string a1_2) := (blk_cell BK102.out 2).trans rfl
                                    have hfz191_0 := blk_frozen BK102.out 0
                                    have hfz191_1 := blk_frozen BK102.out 1
                                    have hfz191_2 := blk_frozen BK102.out 2
                                    go_wp2
                                    go_ret
                                    exact ⟨by first | rfl | (simp [errW_none, errW_some] <;> rfl) | (simp [*, errW_none, errW_some] <;> rfl), by repeat (first | (with_reducible first | exact HB.out | apply below_alloc | apply pw_below_drewN | apply below_drew1 | refine below_set ?_ GE101.out | refine below_set ?_ GE102.out | refine below_set ?_ GE103.out) | exact HB.out)⟩
                            · rw [if_neg c162] at H
                              have c162b0 : (t108 == 0) = false := beq_eq_false_iff_ne.mpr c162
                              have c162b1 : (t108 != 0) = true := bne_iff_ne.mpr c162
                              as_aux_lemma =>
                                obtain rfl := Option.some.inj H
                                have hnb192 := NB101_102.out
                                have hnc192 := NB102_101.out
                                have hnb193 := NB101_103.out
                                have hnc193 := NB103_101.out
                                have hcz194_0 : wc.cell? ⟨gb101, 0, none⟩ = some (.int .i64 a0_0) := (blk_cell BK101.out 0).trans rfl
                                have hcz194_1 : wc.cell? ⟨gb101, 1, none⟩ = some (.int .i64 a0_1) := (blk_cell BK101.out 1).trans rfl
                                have hcz194_2 : wc.cell? ⟨gb101, 2, none⟩ = some (.string a0_2) := (blk_cell BK101.out 2).trans rfl
                                have hfz194_0 := blk_frozen BK101.out 0
                                have hfz194_1 := blk_frozen BK101.out 1
                                have hfz194_2 := blk_frozen BK101.out 2
                                have hnb195 := NB102_103.out
                                have hnc195 := NB103_102.out
                                have hcz196_0 : wc.cell? ⟨gb102, 0, none⟩ = some (.int .i64 a1_0) := (blk_cell BK102.out 0).trans rfl
                                have hcz196_1 : wc.cell? ⟨gb102, 1, none⟩ = some (.int .i64 a1_1) := (blk_cell BK102.out 1).trans rfl
                                have hcz196_2 : wc.cell? ⟨gb102, 2, none⟩ = some (.string a1_2) := (blk_cell BK102.out 2).trans rfl
                                have hfz196_0 := blk_frozen BK102.out 0
                                have hfz196_1 := blk_frozen BK102.out 1
                                have hfz196_2 := blk_frozen BK102.out 2
                                go_wp2
                                go_ret
                                exact ⟨by first | rfl | (simp [errW_none, errW_some] <;> rfl) | (simp [*, errW_none, errW_some] <;> rfl), by repeat (first | (with_reducible first | exact HB.out | apply below_alloc | apply pw_below_drewN | apply below_drew1 | refine below_set ?_ GE101.out | refine below_set ?_ GE102.out | refine below_set ?_ GE103.out) | exact HB.out)⟩
                        · rw [if_neg c107] at H
                          have c107b0 : (a1_0 == 0) = false := beq_eq_false_iff_ne.mpr c107
                          have c107b1 : (a1_0 != 0) = true := bne_iff_ne.mpr c107
                          by_cases c197 : t108 = (-1)
                          · rw [if_pos c197] at H
                            have c197b0 : (t108 == (-1)) = true := beq_iff_eq.mpr c197
                            have c197b1 : (t108 != (-1)) = false := bne_eq_false_iff_eq.mpr c197
                            clear c197
                            by_cases c198 : a0_0 = 4
                            · rw [if_pos c198] at H
                              have c198b0 : (a0_0 == 4) = true := beq_iff_eq.mpr c198
                              have c198b1 : (a0_0 != 4) = false := bne_eq_false_iff_eq.mpr c198
                              clear c198
                              by_cases c199 : a1_0 = 4
                              · rw [if_pos c199] at H
                                have c199b0 : (a1_0 == 4) = true := beq_iff_eq.mpr c199
                                have c199b1 : (a1_0 != 4) = false := bne_eq_false_iff_eq.mpr c199
                                clear c199
                                by_cases c200 : t108 = 0
                                · rw [if_pos c200] at H
                                  have c200b0 : (t108 == 0) = true := beq_iff_eq.mpr c200
                                  have c200b1 : (t108 != 0) = false := bne_eq_false_iff_eq.mpr c200
                                  clear c200
                                  by_cases c201 : a0_0 = a1_0
                                  · rw [if_pos c201] at H
                                    have c201b0 : (a0_0 == a1_0) = true := beq_iff_eq.mpr c201
                                    have c201b1 : (a0_0 != a1_0) = false := bne_eq_false_iff_eq.mpr c201
                                    clear c201
                                    by_cases c202 : (a0_1 == a1_1 && (a0_2.toList == a1_2.toList)) = true
                                    · rw [if_pos c202] at H
                                      have c202b0 : (a0_1 == a1_1 && (a0_2.toList == a1_2.toList)) = true := c202
                                      (try (have c202b1 : decide (a0_1 = a1_1 && (a0_2.toList == a1_2.toList)) = true := by simpa using c202))
                                      (try (have c202b2 : (a0_1 == a1_1 && (a0_2.toList == a1_2.toList)) = true := by simpa using c202))
                                      clear c202
                                      as_aux_lemma =>
                                        obtain rfl := Option.some.inj H
                                        have hnb203 := NB101_102.out
                                        have hnc203 := NB102_101.out
                                        have hnb204 := NB101_103.out
                                        have hnc204 := NB103_101.out
                                        have hcz205_0 : wc.cell? ⟨gb101, 0, none⟩ = some (.int .i64 a0_0) := (blk_cell BK101.out 0).trans rfl
                                        have hcz205_1 : wc.cell? ⟨gb101, 1, none⟩ = some (.int .i64 a0_1) := (blk_cell BK101.out 1).trans rfl
                                        have hcz205_2 : wc.cell? ⟨gb101, 2, none⟩ = some (.string a0_2) := (blk_cell BK101.out 2).trans rfl
                                        have hfz205_0 := blk_frozen BK101.out 0
                                        have hfz205_1 := blk_frozen BK101.out 1
                                        have hfz205_2 := blk_frozen BK101.out 2
                                        have hnb206 := NB102_103.out
                                        have hnc206 := NB103_102.out
                                        have hcz207_0 : wc.cell? ⟨gb102, 0, none⟩ = some (.int .i64 a1_0) := (blk_cell BK102.out 0).trans rfl
                                        have hcz207_1 : wc.cell? ⟨gb102, 1, none⟩ = some (.int .i64 a1_1) := (blk_cell BK102.out 1).trans rfl
                                        have hcz207_2 : wc.cell? ⟨gb102, 2, none⟩ = some (.string a1_2) := (blk_cell BK102.out 2).trans rfl
                                        have hfz207_0 := blk_frozen BK102.out 0
                                        have hfz207_1 := blk_frozen BK102.out 1
                                        have hfz207_2 := blk_frozen BK102.out 2
                                        go_wp2
                                        go_ret
                                        exact ⟨by first | rfl | (simp [errW_none, errW_some] <;> rfl) | (simp [*, errW_none, errW_some] <;> rfl), by repeat (first | (with_reducible first | exact HB.out | apply below_alloc | apply pw_below_drewN | apply below_drew1 | refine below_set ?_ GE101.out | refine below_set ?_ GE102.out | refine below_set ?_ GE103.out) | exact HB.out)⟩
                                    · rw [if_neg c202] at H
                                      have c202b0 : (a0_1 == a1_1 && (a0_2.toList == a1_2.toList)) = false := by simpa using c202
                                      (try (have c202b1 : decide (a0_1 = a1_1 && (a0_2.toList == a1_2.toList)) = false := by simpa using c202))
                                      (try (have c202b2 : (a0_1 == a1_1 && (a0_2.toList == a1_2.toList)) = false := by simpa using c202))
                                      (try (have c202b3 : ¬ (a0_1 = a1_1 && (a0_2.toList == a1_2.toList)) := by simpa using c202))
                                      clear c202
                                      as_aux_lemma =>
                                        obtain rfl := Option.some.inj H
                                        have hnb208 := NB101_102.out
                                        have hnc208 := NB102_101.out
                                        have hnb209 := NB101_103.out
                                        have hnc209 := NB103_101.out
                                        have hcz210_0 : wc.cell? ⟨gb101, 0, none⟩ = some (.int .i64 a0_0) := (blk_cell BK101.out 0).trans rfl
                                        have hcz210_1 : wc.cell? ⟨gb101, 1, none⟩ = some (.int .i64 a0_1) := (blk_cell BK101.out 1).trans rfl
                                        have hcz210_2 : wc.cell? ⟨gb101, 2, none⟩ = some (.string a0_2) := (blk_cell BK101.out 2).trans rfl
                                        have hfz210_0 := blk_frozen BK101.out 0
                                        have hfz210_1 := blk_frozen BK101.out 1
                                        have hfz210_2 := blk_frozen BK101.out 2
                                        have hnb211 := NB102_103.out
                                        have hnc211 := NB103_102.out
                                        have hcz212_0 : wc.cell? ⟨gb102, 0, none⟩ = some (.int .i64 a1_0) := (blk_cell BK102.out 0).trans rfl
                                        have hcz212_1 : wc.cell? ⟨gb102, 1, none⟩ = some (.int .i64 a1_1) := (blk_cell BK102.out 1).trans rfl
                                        have hcz212_2 : wc.cell? ⟨gb102, 2, none⟩ = some (.string a1_2) := (blk_cell BK102.out 2).trans rfl
                                        have hfz212_0 := blk_frozen BK102.out 0
                                        have hfz212_1 := blk_frozen BK102.out 1
                                        have hfz212_2 := blk_frozen BK102.out 2
                                        go_wp2
                                        go_ret
                                        exact ⟨by first | rfl | (simp [errW_none, errW_some] <;> rfl) | (simp [*, errW_none, errW_some] <;> rfl), by repeat (first | (with_reducible first | exact HB.out | apply below_alloc | apply pw_below_drewN | apply below_drew1 | refine below_set ?_ GE101.out | refine below_set ?_ GE102.out | refine below_set ?_ GE103.out) | exact HB.out)⟩
                                  · rw [if_neg c201] at H
                                    have c201b0 : (a0_0 == a1_0) = false := beq_eq_false_iff_ne.mpr c201
                                    have c201b1 : (a0_0 != a1_0) = true := bne_iff_ne.mpr c201
                                    as_aux_lemma =>
                                      obtain rfl := Option.some.inj H
                                      have hnb213 := NB101_102.out
                                      have hnc213 := NB102_101.out
                                      have hnb214 := NB101_103.out
                                      have hnc214 := NB103_101.out
                                      have hcz215_0 : wc.cell? ⟨gb101, 0, none⟩ = some (.int .i64 a0_0) := (blk_cell BK101.out 0).trans rfl
                                      have hcz215_1 : wc.cell? ⟨gb101, 1, none⟩ = some (.int .i64 a0_1) := (blk_cell BK101.out 1).trans rfl
                                      have hcz215_2 : wc.cell? ⟨gb101, 2, none⟩ = some (.string a0_2) := (blk_cell BK101.out 2).trans rfl
                                      have hfz215_0 := blk_frozen BK101.out 0
                                      have hfz215_1 := blk_frozen BK101.out 1
                                      have hfz215_2 := blk_frozen BK101.out 2
                                      have hnb216 := NB102_103.out
                                      have hnc216 := NB103_102.out
                                      have hcz217_0 : wc.cell? ⟨gb102, 0, none⟩ = some (.int .i64 a1_0) := (blk_cell BK102.out 0).trans rfl
                                      have hcz217_1 : wc.cell? ⟨gb102, 1, none⟩ = some (.int .i64 a1_1) := (blk_cell BK102.out 1).trans rfl
                                      have hcz217_2 : wc.cell? ⟨gb102, 2, none⟩ = some (.string a1_2) := (blk_cell BK102.out 2).trans rfl
                                      have hfz217_0 := blk_frozen BK102.out 0
                                      have hfz217_1 := blk_frozen BK102.out 1
                                      have hfz217_2 := blk_frozen BK102.out 2
                                      go_wp2
                                      go_ret
                                      exact ⟨by first | rfl | (simp [errW_none, errW_some] <;> rfl) | (simp [*, errW_none, errW_some] <;> rfl), by repeat (first | (with_reducible first | exact HB.out | apply below_alloc | apply pw_below_drewN | apply below_drew1 | refine below_set ?_ GE101.out | refine below_set ?_ GE102.out | refine below_set ?_ GE103.out) | exact HB.out)⟩
                                · rw [if_neg c200] at H
                                  have c200b0 : (t108 == 0) = false := beq_eq_false_iff_ne.mpr c200
                                  have c200b1 : (t108 != 0) = true := bne_iff_ne.mpr c200
                                  as_aux_lemma =>
                                    obtain rfl := Option.some.inj H
                                    have hnb218 := NB101_102.out
                                    have hnc218 := NB102_101.out
                                    have hnb219 := NB101_103.out
                                    have hnc219 := NB103_101.out
                                    have hcz220_0 : wc.cell? ⟨gb101, 0, none⟩ = some (.int .i64 a0_0) := (blk_cell BK101.out 0).trans rfl
                                    have hcz220_1 : wc.cell? ⟨gb101, 1, none⟩ = some (.int .i64 a0_1) := (blk_cell BK101.out 1).trans rfl
                                    have hcz220_2 : wc.cell? ⟨gb101, 2, none⟩ = some (.string a0_2) := (blk_cell BK101.out 2).trans rfl
                                    have hfz220_0 := blk_frozen BK101.out 0
                                    have hfz220_1 := blk_frozen BK101.out 1
                                    have hfz220_2 := blk_frozen BK101.out 2
                                    have hnb221 := NB102_103.out
                                    have hnc221 := NB103_102.out
                                    have hcz222_0 : wc.cell? ⟨gb102, 0, none⟩ = some (.int .i64 a1_0) := (blk_cell BK102.out 0).trans rfl
                                    have hcz222_1 : wc.cell? ⟨gb102, 1, none⟩ = some (.int .i64 a1_1) := (blk_cell BK102.out 1).trans rfl
                                    have hcz222_2 : wc.cell? ⟨gb102, 2, none⟩ = some (.string a1_2) := (blk_cell BK102.out 2).trans rfl
                                    have hfz222_0 := blk_frozen BK102.out 0
                                    have hfz222_1 := blk_frozen BK102.out 1
                                    have hfz222_2 := blk_frozen BK102.out 2
                                    go_wp2
                                    go_ret
                                    exact ⟨by first | rfl | (simp [errW_none, errW_some] <;> rfl) | (simp [*, errW_none, errW_some] <;> rfl), by repeat (first | (with_reducible first | exact HB.out | apply below_alloc | apply pw_below_drewN | apply below_drew1 | refine below_set ?_ GE101.out | refine below_set ?_ GE102.out | refine below_set ?_ GE103.out) | exact HB.out)⟩
                              · rw [if_neg c199] at H
                                have c199b0 : (a1_0 == 4) = false := beq_eq_false_iff_ne.mpr c199
                                have c199b1 : (a1_0 != 4) = true := bne_iff_ne.mpr c199
                                by_cases c223 : t108 = 1
                                · rw [if_pos c223] at H
                                  have c223b0 : (t108 == 1) = true := beq_iff_eq.mpr c223
                                  have c223b1 : (t108 != 1) = false := bne_eq_false_iff_eq.mpr c223
                                  clear c223
                                  by_cases c224 : t108 = 0
                                  · rw [if_pos c224] at H
                                    have c224b0 : (t108 == 0) = true := beq_iff_eq.mpr c224
                                    have c224b1 : (t108 != 0) = false := bne_eq_false_iff_eq.mpr c224
                                    clear c224
                                    by_cases c225 : a0_0 = a1_0
                                    · rw [if_pos c225] at H
                                      have c225b0 : (a0_0 == a1_0) = true := beq_iff_eq.mpr c225
                                      have c225b1 : (a0_0 != a1_0) = false := bne_eq_false_iff_eq.mpr c225
                                      clear c225
                                      by_cases c226 : (a0_1 == a1_1 && (a0_2.toList == a1_2.toList)) = true
                                      · rw [if_pos c226] at H
                                        have c226b0 : (a0_1 == a1_1 && (a0_2.toList == a1_2.toList)) = true := c226
                                        (try (have c226b1 : decide (a0_1 = a1_1 && (a0_2.toList == a1_2.toList)) = true := by simpa using c226))
                                        (try (have c226b2 : (a0_1 == a1_1 && (a0_2.toList == a1_2.toList)) = true := by simpa using c226))
                                        clear c226
                                        as_aux_lemma =>
                                          obtain rfl := Option.some.inj H
                                          have hnb227 := NB101_102.out
                                          have hnc227 := NB102_101.out
                                          have hnb228 := NB101_103.out
                                          have hnc228 := NB103_101.out
                                          have hcz229_0 : wc.cell? ⟨gb101, 0, none⟩ = some (.int .i64 a0_0) := (blk_cell BK101.out 0).trans rfl
                                          have hcz229_1 : wc.cell? ⟨gb101, 1, none⟩ = some (.int .i64 a0_1) := (blk_cell BK101.out 1).trans rfl
                                          have hcz229_2 : wc.cell? ⟨gb101, 2, none⟩ = some (.string a0_2) := (blk_cell BK101.out 2).trans rfl
                                          have hfz229_0 := blk_frozen BK101.out 0
                                          have hfz229_1 := blk_frozen BK101.out 1
                                          have hfz229_2 := blk_frozen BK101.out 2
                                          have hnb230 := NB102_103.out
                                          have hnc230 := NB103_102.out
                                          have hcz231_0 : wc.cell? ⟨gb102, 0, none⟩ = some (.int .i64 a1_0) := (blk_cell BK102.out 0).trans rfl
                                          have hcz231_1 : wc.cell? ⟨gb102, 1, none⟩ = some (.int .i64 a1_1) := (blk_cell BK102.out 1).trans rfl
                                          have hcz231_2 : wc.cell? ⟨gb102, 2, none⟩ = some (.string a1_2) := (blk_cell BK102.out 2).trans rfl
                                          have hfz231_0 := blk_frozen BK102.out 0
                                          have hfz231_1 := blk_frozen BK102.out 1
                                          have hfz231_2 := blk_frozen BK102.out 2
                                          go_wp2
                                          go_ret
                                          exact ⟨by first | rfl | (simp [errW_none, errW_some] <;> rfl) | (simp [*, errW_none, errW_some] <;> rfl), by repeat (first | (with_reducible first | exact HB.out | apply below_alloc | apply pw_below_drewN | apply below_drew1 | refine below_set ?_ GE101.out | refine below_set ?_ GE102.out | refine below_set ?_ GE103.out) | exact HB.out)⟩
                                      · rw [if_neg c226] at H
                                        have c226b0 : (a0_1 == a1_1 && (a0_2.toList == a1_2.toList)) = false := by simpa using c226
                                        (try (have c226b1 : decide (a0_1 = a1_1 && (a0_2.toList == a1_2.toList)) = false := by simpa using c226))
                                        (try (have c226b2 : (a0_1 == a1_1 && (a0_2.toList == a1_2.toList)) = false := by simpa using c226))
                                        (try (have c226b3 : ¬ (a0_1 = a1_1 && (a0_2.toList == a1_2.toList)) := by simpa using c226))
                                        clear c226
                                        as_aux_lemma =>
                                          obtain rfl := Option.some.inj H
                                          have hnb232 := NB101_102.out
                                          have hnc232 := NB102_101.out
                                          have hnb233 := NB101_103.out
                                          have hnc233 := NB103_101.out
                                          have hcz234_0 : wc.cell? ⟨gb101, 0, none⟩ = some (.int .i64 a0_0) := (blk_cell BK101.out 0).trans rfl
                                          have hcz234_1 : wc.cell? ⟨gb101, 1, none⟩ = some (.int .i64 a0_1) := (blk_cell BK101.out 1).trans rfl
                                          have hcz234_2 : wc.cell? ⟨gb101, 2, none⟩ = some (.string a0_2) := (blk_cell BK101.out 2).trans rfl
                                          have hfz234_0 := blk_frozen BK101.out 0
                                          have hfz234_1 := blk_frozen BK101.out 1
                                          have hfz234_2 := blk_frozen BK101.out 2
                                          have hnb235 := NB102_103.out
                                          have hnc235 := NB103_102.out
                                          have hcz236_0 : wc.cell? ⟨gb102, 0, none⟩ = some (.int .i64 a1_0) := (blk_cell BK102.out 0).trans rfl
                                          have hcz236_1 : wc.cell? ⟨gb102, 1, none⟩ = some (.int .i64 a1_1) := (blk_cell BK102.out 1).trans rfl
                                          have hcz236_2 : wc.cell? ⟨gb102, 2, none⟩ = some (.string a1_2) := (blk_cell BK102.out 2).trans rfl
                                          have hfz236_0 := blk_frozen BK102.out 0
                                          have hfz236_1 := blk_frozen BK102.out 1
                                          have hfz236_2 := blk_frozen BK102.out 2
                                          go_wp2
                                          go_ret
                                          exact ⟨by first | rfl | (simp [errW_none, errW_some] <;> rfl) | (simp [*, errW_none, errW_some] <;> rfl), by repeat (first | (with_reducible first | exact HB.out | apply below_alloc | apply pw_below_drewN | apply below_drew1 | refine below_set ?_ GE101.out | refine below_set ?_ GE102.out | refine below_set ?_ GE103.out) | exact HB.out)⟩
                                    · rw [if_neg c225] at H
                                      have c225b0 : (a0_0 == a1_0) = false := beq_eq_false_iff_ne.mpr c225
                                      have c225b1 : (a0_0 != a1_0) = true := bne_iff_ne.mpr c225
                                      as_aux_lemma =>
                                        obtain rfl := Option.some.inj H
                                        have hnb237 := NB101_102.out
                                        have hnc237 := NB102_101.out
                                        have hnb238 := NB101_103.out
                                        have hnc238 := NB103_101.out
                                        have hcz239_0 : wc.cell? ⟨gb101, 0, none⟩ = some (.int .i64 a0_0) := (blk_cell BK101.out 0).trans rfl
                                        have hcz239_1 : wc.cell? ⟨gb101, 1, none⟩ = some (.int .i64 a0_1) := (blk_cell BK101.out 1).trans rfl
                                        have hcz239_2 : wc.cell? ⟨gb101, 2, none⟩ = some (.string a0_2) := (blk_cell BK101.out 2).trans rfl
                                        have hfz239_0 := blk_frozen BK101.out 0
                                        have hfz239_1 := blk_frozen BK101.out 1
                                        have hfz239_2 := blk_frozen BK101.out 2
                                        have hnb240 := NB102_103.out
                                        have hnc240 := NB103_102.out
                                        have hcz241_0 : wc.cell? ⟨gb102, 0, none⟩ = some (.int .i64 a1_0) := (blk_cell BK102.out 0).trans rfl
                                        have hcz241_1 : wc.cell? ⟨gb102, 1, none⟩ = some (.int .i64 a1_1) := (blk_cell BK102.out 1).trans rfl
                                        have hcz241_2 : wc.cell? ⟨gb102, 2, none⟩ = some (.string a1_2) := (blk_cell BK102.out 2).trans rfl
                                        have hfz241_0 := blk_frozen BK102.out 0
                                        have hfz241_1 := blk_frozen BK102.out 1
                                        have hfz241_2 := blk_frozen BK102.out 2
                                        go_wp2
                                        go_ret
                                        exact ⟨by first | rfl | (simp [errW_none, errW_some] <;> rfl) | (simp [*, errW_none, errW_some] <;> rfl), by repeat (first | (with_reducible first | exact HB.out | apply below_alloc | apply pw_below_drewN | apply below_drew1 | refine below_set ?_ GE101.out | refine below_set ?_ GE102.out | refine below_set ?_ GE103.out) | exact HB.out)⟩
                                  · rw [if_neg c224] at H
                                    have c224b0 : (t108 == 0) = false := beq_eq_false_iff_ne.mpr c224
                                    have c224b1 : (t108 != 0) = true := bne_iff_ne.mpr c224
                                    as_aux_lemma =>
                                      obtain rfl := Option.some.inj H
                                      have hnb242 := NB101_102.out
                                      have hnc242 := NB102_101.out
                                      have hnb243 := NB101_103.out
                                      have hnc243 := NB103_101.out
                                      have hcz244_0 : wc.cell? ⟨gb101, 0, none⟩ = some (.int .i64 a0_0) := (blk_cell BK101.out 0).trans rfl
                                      have hcz244_1 : wc.cell? ⟨gb101, 1, none⟩ = some (.int .i64 a0_1) := (blk_cell BK101.out 1).trans rfl
                                      have hcz244_2 : wc.cell? ⟨gb101, 2, none⟩ = some (.string a0_2) := (blk_cell BK101.out 2).trans rfl
                                      have hfz244_0 := blk_frozen BK101.out 0
                                      have hfz244_1 := blk_frozen BK101.out 1
                                      have hfz244_2 := blk_frozen BK101.out 2
                                      have hnb245 := NB102_103.out
                                      have hnc245 := NB103_102.out
                                      have hcz246_0 : wc.cell? ⟨gb102, 0, none⟩ = some (.int .i64 a1_0) := (blk_cell BK102.out 0).trans rfl
                                      have hcz246_1 : wc.cell? ⟨gb102, 1, none⟩ = some (.int .i64 a1_1) := (blk_cell BK102.out 1).trans rfl
                                      have hcz246_2 : wc.cell? ⟨gb102, 2, none⟩ = some (.string a1_2) := (blk_cell BK102.out 2).trans rfl
                                      have hfz246_0 := blk_frozen BK102.out 0
                                      have hfz246_1 := blk_frozen BK102.out 1
                                      have hfz246_2 := blk_frozen BK102.out 2
                                      go_wp2
                                      go_ret
                                      exact ⟨by first | rfl | (simp [errW_none, errW_some] <;> rfl) | (simp [*, errW_none, errW_some] <;> rfl), by repeat (first | (with_reducible first | exact HB.out | apply below_alloc | apply pw_below_drewN | apply below_drew1 | refine below_set ?_ GE101.out | refine below_set ?_ GE102.out | refine below_set ?_ GE103.out) | exact HB.out)⟩
                                · rw [if_neg c223] at H
                                  have c223b0 : (t108 == 1) = false := beq_eq_false_iff_ne.mpr c223
                                  have c223b1 : (t108 != 1) = true := bne_iff_ne.mpr c223
                                  as_aux_lemma =>
                                    obtain rfl := Option.some.inj H
                                    have hnb247 := NB101_102.out
                                    have hnc247 := NB102_101.out
                                    have hnb248 := NB101_103.out
                                    have hnc248 := NB103_101.out
                                    have hcz249_0 : wc.cell? ⟨gb101, 0, none⟩ = some (.int .i64 a0_0) := (blk_cell BK101.out 0).trans rfl
                                    have hcz249_1 : wc.cell? ⟨gb101, 1, none⟩ = some (.int .i64 a0_1) := (blk_cell BK101.out 1).trans rfl
                                    have hcz249_2 : wc.cell? ⟨gb101, 2, none⟩ = some (.string a0_2) := (blk_cell BK101.out 2).trans rfl
                                    have hfz249_0 := blk_frozen BK101.out 0
                                    have hfz249_1 := blk_frozen BK101.out 1
                                    have hfz249_2 := blk_frozen BK101.out 2
                                    have hnb250 := NB102_103.out
                                    have hnc250 := NB103_102.out
                                    have hcz251_0 : wc.cell? ⟨gb102, 0, none⟩ = some (.int .i64 a1_0) := (blk_cell BK102.out 0).trans rfl
                                    have hcz251_1 : wc.cell? ⟨gb102, 1, none⟩ = some (.int .i64 a1_1) := (blk_cell BK102.out 1).trans rfl
                                    have hcz251_2 : wc.cell? ⟨gb102, 2, none⟩ = some (.string a1_2) := (blk_cell BK102.out 2).trans rfl
                                    have hfz251_0 := blk_frozen BK102.out 0
                                    have hfz251_1 := blk_frozen BK102.out 1
                                    have hfz251_2 := blk_frozen BK102.out 2
                                    go_wp2
                                    go_ret
                                    exact ⟨by first | rfl | (simp [errW_none, errW_some] <;> rfl) | (simp [*, errW_none, errW_some] <;> rfl), by repeat (first | (with_reducible first | exact HB.out | apply below_alloc | apply pw_below_drewN | apply below_drew1 | refine below_set ?_ GE101.out | refine below_set ?_ GE102.out | refine below_set ?_ GE103.out) | exact HB.out)⟩
                            · rw [if_neg c198] at H
                              have c198b0 : (a0_0 == 4) = false := beq_eq_false_iff_ne.mpr c198
                              have c198b1 : (a0_0 != 4) = true := bne_iff_ne.mpr c198
                              by_cases c252 : t108 = 0
                              · rw [if_pos c252] at H
                                have c252b0 : (t108 == 0) = true := beq_iff_eq.mpr c252
                                have c252b1 : (t108 != 0) = false := bne_eq_false_iff_eq.mpr c252
                                clear c252
                                by_cases c253 : a0_0 = a1_0
                                · rw [if_pos c253] at H
                                  have c253b0 : (a0_0 == a1_0) = true := beq_iff_eq.mpr c253
                                  have c253b1 : (a0_0 != a1_0) = false := bne_eq_false_iff_eq.mpr c253
                                  clear c253
                                  by_cases c254 : (a0_1 == a1_1 && (a0_2.toList == a1_2.toList)) = true
                                  · rw [if_pos c254] at H
                                    have c254b0 : (a0_1 == a1_1 && (a0_2.toList == a1_2.toList)) = true := c254
                                    (try (have c254b1 : decide (a0_1 = a1_1 && (a0_2.toList == a1_2.toList)) = true := by simpa using c254))
                                    (try (have c254b2 : (a0_1 == a1_1 && (a0_2.toList == a1_2.toList)) = true := by simpa using c254))
                                    clear c254
                                    as_aux_lemma =>
                                      obtain rfl := Option.some.inj H
                                      have hnb255 := NB101_102.out
                                      have hnc255 := NB102_101.out
                                      have hnb256 := NB101_103.out
                                      have hnc256 := NB103_101.out
                                      have hcz257_0 : wc.cell? ⟨gb101, 0, none⟩ = some (.int .i64 a0_0) := (blk_cell BK101.out 0).trans rfl
                                      have hcz257_1 : wc.cell? ⟨gb101, 1, none⟩ = some (.int .i64 a0_1) := (blk_cell BK101.out 1).trans rfl
                                      have hcz257_2 : wc.cell? ⟨gb101, 2, none⟩ = some (.string a0_2) := (blk_cell BK101.out 2).trans rfl
                                      have hfz257_0 := blk_frozen BK101.out 0
                                      have hfz257_1 := blk_frozen BK101.out 1
                                      have hfz257_2 := blk_frozen BK101.out 2
                                      have hnb258 := NB102_103.out
                                      have hnc258 := NB103_102.out
                                      have hcz259_0 : wc.cell? ⟨gb102, 0, none⟩ = some (.int .i64 a1_0) := (blk_cell BK102.out 0).trans rfl
                                      have hcz259_1 : wc.cell? ⟨gb102, 1, none⟩ = some (.int .i64 a1_1) := (blk_cell BK102.out 1).trans rfl
                                      have hcz259_2 : wc.cell? ⟨gb102, 2, none⟩ = some (.string a1_2) := (blk_cell BK102.out 2).trans rfl
                                      have hfz259_0 := blk_frozen BK102.out 0
                                      have hfz259_1 := blk_frozen BK102.out 1
                                      have hfz259_2 := blk_frozen BK102.out 2
                                      go_wp2
                                      go_ret
                                      exact ⟨by first | rfl | (simp [errW_none, errW_some] <;> rfl) | (simp [*, errW_none, errW_some] <;> rfl), by repeat (first | (with_reducible first | exact HB.out | apply below_alloc | apply pw_below_drewN | apply below_drew1 | refine below_set ?_ GE101.out | refine below_set ?_ GE102.out | refine below_set ?_ GE103.out) | exact HB.out)⟩
                                  · rw [if_neg c254] at H
                                    have c254b0 : (a0_1 == a1_1 && (a0_2.toList == a1_2.toList)) = false := by simpa using c254
                                    (try (have c254b1 : decide (a0_1 = a1_1 && (a0_2.toList == a1_2.toList)) = false := by simpa using c254))
                                    (try (have c254b2 : (a0_1 == a1_1 && (a0_2.toList == a1_2.toList)) = false := by simpa using c254))
                                    (try (have c254b3 : ¬ (a0_1 = a1_1 && (a0_2.toList == a1_2.toList)) := by simpa using c254))
                                    clear c254
                                    by_cases c260 : a1_0 = 4
                                    · rw [if_pos c260] at H
                                      have c260b0 : (a1_0 == 4) = true := beq_iff_eq.mpr c260
                                      have c260b1 : (a1_0 != 4) = false := bne_eq_false_iff_eq.mpr c260
                                      clear c260
                                      as_aux_lemma =>
                                        obtain rfl := Option.some.inj H
                                        have hnb261 := NB101_102.out
                                        have hnc261 := NB102_101.out
                                        have hnb262 := NB101_103.out
                                        have hnc262 := NB103_101.out
                                        have hcz263_0 : wc.cell? ⟨gb101, 0, none⟩ = some (.int .i64 a0_0) := (blk_cell BK101.out 0).trans rfl
                                        have hcz263_1 : wc.cell? ⟨gb101, 1, none⟩ = some (.int .i64 a0_1) := (blk_cell BK101.out 1).trans rfl
                                        have hcz263_2 : wc.cell? ⟨gb101, 2, none⟩ = some (.string a0_2) := (blk_cell BK101.out 2).trans rfl
                                        have hfz263_0 := blk_frozen BK101.out 0
                                        have hfz263_1 := blk_frozen BK101.out 1
                                        have hfz263_2 := blk_frozen BK101.out 2
                                        have hnb264 := NB102_103.out
                                        have hnc264 := NB103_102.out
                                        have hcz265_0 : wc.cell? ⟨gb102, 0, none⟩ = some (.int .i64 a1_0) := (blk_cell BK102.out 0).trans rfl
                                        have hcz265_1 : wc.cell? ⟨gb102, 1, none⟩ = some (.int .i64 a1_1) := (blk_cell BK102.out 1).trans rfl
                                        have hcz265_2 : wc.cell? ⟨gb102, 2, none⟩ = some (.string a1_2) := (blk_cell BK102.out 2).trans rfl
                                        have hfz265_0 := blk_frozen BK102.out 0
                                        have hfz265_1 := blk_frozen BK102.out 1
                                        have hfz265_2 := blk_frozen BK102.out 2
                                        go_wp2
                                        go_ret
                                        exact ⟨by first | rfl | (simp [errW_none, errW_some] <;> rfl) | (simp [*, errW_none, errW_some] <;> rfl), by repeat (first | (with_reducible first | exact HB.out | apply below_alloc | apply pw_below_drewN | apply below_drew1 | refine below_set ?_ GE101.out | refine below_set ?_ GE102.out | refine below_set ?_ GE103.out) | exact HB.out)⟩
                                    · rw [if_neg c260] at H
                                      have c260b0 : (a1_0 == 4) = false := beq_eq_false_iff_ne.mpr c260
                                      have c260b1 : (a1_0 != 4) = true := bne_iff_ne.mpr c260
                                      as_aux_lemma =>
                                        obtain rfl := Option.some.inj H
                                        have hnb266 := NB101_102.out
                                        have hnc266 := NB102_101.out
                                        have hnb267 := NB101_103.out
                                        have hnc267 := NB103_101.out
                                        have hcz268_0 : wc.cell? ⟨gb101, 0, none⟩ = some (.int .i64 a0_0) := (blk_cell BK101.out 0).trans rfl
                                        have hcz268_1 : wc.cell? ⟨gb101, 1, none⟩ = some (.int .i64 a0_1) := (blk_cell BK101.out 1).trans rfl
                                        have hcz268_2 : wc.cell? ⟨gb101, 2, none⟩ = some (.string a0_2) := (blk_cell BK101.out 2).trans rfl
                                        have hfz268_0 := blk_frozen BK101.out 0
                                        have hfz268_1 := blk_frozen BK101.out 1
                                        have hfz268_2 := blk_frozen BK101.out 2
                                        have hnb269 := NB102_103.out
                                        have hnc269 := NB103_102.out
                                        have hcz270_0 : wc.cell? ⟨gb102, 0, none⟩ = some (.int .i64 a1_0) := (blk_cell BK102.out 0).trans rfl
                                        have hcz270_1 : wc.cell? ⟨gb102, 1, none⟩ = some (.int .i64 a1_1) := (blk_cell BK102.out 1).trans rfl
                                        have hcz270_2 : wc.cell? ⟨gb102, 2, none⟩ = some (.string a1_2) := (blk_cell BK102.out 2).trans rfl
                                        have hfz270_0 := blk_frozen BK102.out 0
                                        have hfz270_1 := blk_frozen BK102.out 1
                                        have hfz270_2 := blk_frozen BK102.out 2
                                        go_wp2
                                        go_ret
                                        exact ⟨by first | rfl | (simp [errW_none, errW_some] <;> rfl) | (simp [*, errW_none, errW_some] <;> rfl), by repeat (first | (with_reducible first | exact HB.out | apply below_alloc | apply pw_below_drewN | apply below_drew1 | refine below_set ?_ GE101.out | refine below_set ?_ GE102.out | refine below_set ?_ GE103.out) | exact HB.out)⟩
                                · rw [if_neg c253] at H
                                  have c253b0 : (a0_0 == a1_0) = false := beq_eq_false_iff_ne.mpr c253
                                  have c253b1 : (a0_0 != a1_0) = true := bne_iff_ne.mpr c253
                                  by_cases c271 : a1_0 = 4
                                  · rw [if_pos c271] at H
                                    have c271b0 : (a1_0 == 4) = true := beq_iff_eq.mpr c271
                                    have c271b1 : (a1_0 != 4) = false := bne_eq_false_iff_eq.mpr c271
                                    clear c271
                                    as_aux_lemma =>
                                      obtain rfl := Option.some.inj H
                                      have hnb272 := NB101_102.out
                                      have hnc272 := NB102_101.out
                                      have hnb273 := NB101_103.out
                                      have hnc273 := NB103_101.out
                                      have hcz274_0 : wc.cell? ⟨gb101, 0, none⟩ = some (.int .i64 a0_0) := (blk_cell BK101.out 0).trans rfl
                                      have hcz274_1 : wc.cell? ⟨gb101, 1, none⟩ = some (.int .i64 a0_1) := (blk_cell BK101.out 1).trans rfl
                                      have hcz274_2 : wc.cell? ⟨gb101, 2, none⟩ = some (.string a0_2) := (blk_cell BK101.out 2).trans rfl
                                      have hfz274_0 := blk_frozen BK101.out 0
                                      have hfz274_1 := blk_frozen BK101.out 1
                                      have hfz274_2 := blk_frozen BK101.out 2
                                      have hnb275 := NB102_103.out
                                      have hnc275 := NB103_102.out
                                      have hcz276_0 : wc.cell? ⟨gb102, 0, none⟩ = some (.int .i64 a1_0) := (blk_cell BK102.out 0).trans rfl
                                      have hcz276_1 : wc.cell? ⟨gb102, 1, none⟩ = some (.int .i64 a1_1) := (blk_cell BK102.out 1).trans rfl
                                      have hcz276_2 : wc.cell? ⟨gb102, 2, none⟩ = some (.string a1_2) := (blk_cell BK102.out 2).trans rfl
                                      have hfz276_0 := blk_frozen BK102.out 0
                                      have hfz276_1 := blk_frozen BK102.out 1
                                      have hfz276_2 := blk_frozen BK102.out 2
                                      go_wp2
                                      go_ret
                                      exact ⟨by first | rfl | (simp [errW_none, errW_some] <;> rfl) | (simp [*, errW_none, errW_some] <;> rfl), by repeat (first | (with_reducible first | exact HB.out | apply below_alloc | apply pw_below_drewN | apply below_drew1 | refine below_set ?_ GE101.out | refine below_set ?_ GE102.out | refine below_set ?_ GE103.out) | exact HB.out)⟩
                                  · rw [if_neg c271] at H
                                    have c271b0 : (a1_0 == 4) = false := beq_eq_false_iff_ne.mpr c271
                                    have c271b1 : (a1_0 != 4) = true := bne_iff_ne.mpr c271
                                    as_aux_lemma =>
                                      obtain rfl := Option.some.inj H
                                      have hnb277 := NB101_102.out
                                      have hnc277 := NB102_101.out
                                      have hnb278 := NB101_103.out
                                      have hnc278 := NB103_101.out
                                      have hcz279_0 : wc.cell? ⟨gb101, 0, none⟩ = some (.int .i64 a0_0) := (blk_cell BK101.out 0).trans rfl
                                      have hcz279_1 : wc.cell? ⟨gb101, 1, none⟩ = some (.int .i64 a0_1) := (blk_cell BK101.out 1).trans rfl
                                      have hcz279_2 : wc.cell? ⟨gb101, 2, none⟩ = some (.string a0_2) := (blk_cell BK101.out 2).trans rfl
                                      have hfz279_0 := blk_frozen BK101.out 0
                                      have hfz279_1 := blk_frozen BK101.out 1
                                      have hfz279_2 := blk_frozen BK101.out 2
                                      have hnb280 := NB102_103.out
                                      have hnc280 := NB103_102.out
                                      have hcz281_0 : wc.cell? ⟨gb102, 0, none⟩ = some (.int .i64 a1_0) := (blk_cell BK102.out 0).trans rfl
                                      have hcz281_1 : wc.cell? ⟨gb102, 1, none⟩ = some (.int .i64 a1_1) := (blk_cell BK102.out 1).trans rfl
                                      have hcz281_2 : wc.cell? ⟨gb102, 2, none⟩ = some (.string a1_2) := (blk_cell BK102.out 2).trans rfl
                                      have hfz281_0 := blk_frozen BK102.out 0
                                      have hfz281_1 := blk_frozen BK102.out 1
                                      have hfz281_2 := blk_frozen BK102.out 2
                                      go_wp2
                                      go_ret
                                      exact ⟨by first | rfl | (simp [errW_none, errW_some] <;> rfl) | (simp [*, errW_none, errW_some] <;> rfl), by repeat (first | (with_reducible first | exact HB.out | apply below_alloc | apply pw_below_drewN | apply below_drew1 | refine below_set ?_ GE101.out | refine below_set ?_ GE102.out | refine below_set ?_ GE103.out) | exact HB.out)⟩
                              · rw [if_neg c252] at H
                                have c252b0 : (t108 == 0) = false := beq_eq_false_iff_ne.mpr c252
                                have c252b1 : (t108 != 0) = true := bne_iff_ne.mpr c252
                                as_aux_lemma =>
                                  obtain rfl := Option.some.inj H
                                  have hnb282 := NB101_102.out
                                  have hnc282 := NB102_101.out
                                  have hnb283 := NB101_103.out
                                  have hnc283 := NB103_101.out
                                  have hcz284_0 : wc.cell? ⟨gb101, 0, none⟩ = some (.int .i64 a0_0) := (blk_cell BK101.out 0).trans rfl
                                  have hcz284_1 : wc.cell? ⟨gb101, 1, none⟩ = some (.int .i64 a0_1) := (blk_cell BK101.out 1).trans rfl
                                  have hcz284_2 : wc.cell? ⟨gb101, 2, none⟩ = some (.string a0_2) := (blk_cell BK101.out 2).trans rfl
                                  have hfz284_0 := blk_frozen BK101.out 0
                                  have hfz284_1 := blk_frozen BK101.out 1
                                  have hfz284_2 := blk_frozen BK101.out 2
                                  have hnb285 := NB102_103.out
                                  have hnc285 := NB103_102.out
                                  have hcz286_0 : wc.cell? ⟨gb102, 0, none⟩ = some (.int .i64 a1_0) := (blk_cell BK102.out 0).trans rfl
                                  have hcz286_1 : wc.cell? ⟨gb102, 1, none⟩ = some (.int .i64 a1_1) := (blk_cell BK102.out 1).trans rfl
                                  have hcz286_2 : wc.cell? ⟨gb102, 2, none⟩ = some (.string a1_2) := (blk_cell BK102.out 2).trans rfl
                                  have hfz286_0 := blk_frozen BK102.out 0
                                  have hfz286_1 := blk_frozen BK102.out 1
                                  have hfz286_2 := blk_frozen BK102.out 2
                                  go_wp2
                                  go_ret
                                  exact ⟨by first | rfl | (simp [errW_none, errW_some] <;> rfl) | (simp [*, errW_none, errW_some] <;> rfl), by repeat (first | (with_reducible first | exact HB.out | apply below_alloc | apply pw_below_drewN | apply below_drew1 | refine below_set ?_ GE101.out | refine below_set ?_ GE102.out | refine below_set ?_ GE103.out) | exact HB.out)⟩
                          · rw [if_neg c197] at H
                            have c197b0 : (t108 == (-1)) = false := beq_eq_false_iff_ne.mpr c197
                            have c197b1 : (t108 != (-1)) = true := bne_iff_ne.mpr c197
                            as_aux_lemma =>
                              obtain rfl := Option.some.inj H
                              have hnb287 := NB101_102.out
                              have hnc287 := NB102_101.out
                              have hnb288 := NB101_103.out
                              have hnc288 := NB103_101.out
                              have hcz289_0 : wc.cell? ⟨gb101, 0, none⟩ = some (.int .i64 a0_0) := (blk_cell BK101.out 0).trans rfl
                              have hcz289_1 : wc.cell? ⟨gb101, 1, none⟩ = some (.int .i64 a0_1) := (blk_cell BK101.out 1).trans rfl
                              have hcz289_2 : wc.cell? ⟨gb101, 2, none⟩ = some (.string a0_2) := (blk_cell BK101.out 2).trans rfl
                              have hfz289_0 := blk_frozen BK101.out 0
                              have hfz289_1 := blk_frozen BK101.out 1
                              have hfz289_2 := blk_frozen BK101.out 2
                              have hnb290 := NB102_103.out
                              have hnc290 := NB103_102.out
                              have hcz291_0 : wc.cell? ⟨gb102, 0, none⟩ = some (.int .i64 a1_0) := (blk_cell BK102.out 0).trans rfl
                              have hcz291_1 : wc.cell? ⟨gb102, 1, none⟩ = some (.int .i64 a1_1) := (blk_cell BK102.out 1).trans rfl
                              have hcz291_2 : wc.cell? ⟨gb102, 2, none⟩ = some (.string a1_2) := (blk_cell BK102.out 2).trans rfl
                              have hfz291_0 := blk_frozen BK102.out 0
                              have hfz291_1 := blk_frozen BK102.out 1
                              have hfz291_2 := blk_frozen BK102.out 2
                              go_wp2
                              go_ret
                              exact ⟨by first | rfl | (simp [errW_none, errW_some] <;> rfl) | (simp [*, errW_none, errW_some] <;> rfl), by repeat (first | (with_reducible first | exact HB.out | apply below_alloc | apply pw_below_drewN | apply below_drew1 | refine below_set ?_ GE101.out | refine below_set ?_ GE102.out | refine below_set ?_ GE103.out) | exact HB.out)⟩
                      · rw [if_neg c106] at H
                        have c106b0 : (a0_0 == 0) = false := beq_eq_false_iff_ne.mpr c106
                        have c106b1 : (a0_0 != 0) = true := bne_iff_ne.mpr c106
                        by_cases c292 : a0_0 = 4
                        · rw [if_pos c292] at H
                          have c292b0 : (a0_0 == 4) = true := beq_iff_eq.mpr c292
                          have c292b1 : (a0_0 != 4) = false := bne_eq_false_iff_eq.mpr c292
                          clear c292
                          by_cases c293 : a1_0 = 4
                          · rw [if_pos c293] at H
                            have c293b0 : (a1_0 == 4) = true := beq_iff_eq.mpr c293
                            have c293b1 : (a1_0 != 4) = false := bne_eq_false_iff_eq.mpr c293
                            clear c293
                            by_cases c294 : t108 = 0
                            · rw [if_pos c294] at H
                              have c294b0 : (t108 == 0) = true := beq_iff_eq.mpr c294
                              have c294b1 : (t108 != 0) = false := bne_eq_false_iff_eq.mpr c294
                              clear c294
                              by_cases c295 : a0_0 = a1_0
                              · rw [if_pos c295] at H
                                have c295b0 : (a0_0 == a1_0) = true := beq_iff_eq.mpr c295
                                have c295b1 : (a0_0 != a1_0) = false := bne_eq_false_iff_eq.mpr c295
                                clear c295
                                by_cases c296 : (a0_1 == a1_1 && (a0_2.toList == a1_2.toList)) = true
                                · rw [if_pos c296] at H
                                  have c296b0 : (a0_1 == a1_1 && (a0_2.toList == a1_2.toList)) = true := c296
                                  (try (have c296b1 : decide (a0_1 = a1_1 && (a0_2.toList == a1_2.toList)) = true := by simpa using c296))
                                  (try (have c296b2 : (a0_1 == a1_1 && (a0_2.toList == a1_2.toList)) = true := by simpa using c296))
                                  clear c296
                                  as_aux_lemma =>
                                    obtain rfl := Option.some.inj H
                                    have hnb297 := NB101_102.out
                                    have hnc297 := NB102_101.out
                                    have hnb298 := NB101_103.out
                                    have hnc298 := NB103_101.out
                                    have hcz299_0 : wc.cell? ⟨gb101, 0, none⟩ = some (.int .i64 a0_0) := (blk_cell BK101.out 0).trans rfl
                                    have hcz299_1 : wc.cell? ⟨gb101, 1, none⟩ = some (.int .i64 a0_1) := (blk_cell BK101.out 1).trans rfl
                                    have hcz299_2 : wc.cell? ⟨gb101, 2, none⟩ = some (.string a0_2) := (blk_cell BK101.out 2).trans rfl
                                    have hfz299_0 := blk_frozen BK101.out 0
                                    have hfz299_1 := blk_frozen BK101.out 1
                                    have hfz299_2 := blk_frozen BK101.out 2
                                    have hnb300 := NB102_103.out
                                    have hnc300 := NB103_102.out
                                    have hcz301_0 : wc.cell? ⟨gb102, 0, none⟩ = some (.int .i64 a1_0) := (blk_cell BK102.out 0).trans rfl
                                    have hcz301_1 : wc.cell? ⟨gb102, 1, none⟩ = some (.int .i64 a1_1) := (blk_cell BK102.out 1).trans rfl
                                    have hcz301_2 : wc.cell? ⟨gb102, 2, none⟩ = some (.string a1_2) := (blk_cell BK102.out 2).trans rfl
                                    have hfz301_0 := blk_frozen BK102.out 0
                                    have hfz301_1 := blk_frozen BK102.out 1
                                    have hfz301_2 := blk_frozen BK102.out 2
                                    go_wp2
                                    go_ret
                                    exact ⟨by first | rfl | (simp [errW_none, errW_some] <;> rfl) | (simp [*, errW_none, errW_some] <;> rfl), by repeat (first | (with_reducible first | exact HB.out | apply below_alloc | apply pw_below_drewN | apply below_drew1 | refine below_set ?_ GE101.out | refine below_set ?_ GE102.out | refine below_set ?_ GE103.out) | exact HB.out)⟩
                                · rw [if_neg c296] at H
                                  have c296b0 : (a0_1 == a1_1 && (a0_2.toList == a1_2.toList)) = false := by simpa using c296
                                  (try (have c296b1 : decide (a0_1 = a1_1 && (a0_2.toList == a1_2.toList)) = false := by simpa using c296))
                                  (try (have c296b2 : (a0_1 == a1_1 && (a0_2.toList == a1_2.toList)) = false := by simpa using c296))
                                  (try (have c296b3 : ¬ (a0_1 = a1_1 && (a0_2.toList == a1_2.toList)) := by simpa using c296))
                                  clear c296
                                  as_aux_lemma =>
                                    obtain rfl := Option.some.inj H
                                    have hnb302 := NB101_102.out
                                    have hnc302 := NB102_101.out
                                    have hnb303 := NB101_103.out
                                    have hnc303 := NB103_101.out
                                    have hcz304_0 : wc.cell? ⟨gb101, 0, none⟩ = some (.int .i64 a0_0) := (blk_cell BK101.out 0).trans rfl
                                    have hcz304_1 : wc.cell? ⟨gb101, 1, none⟩ = some (.int .i64 a0_1) := (blk_cell BK101.out 1).trans rfl
                                    have hcz304_2 : wc.cell? ⟨gb101, 2, none⟩ = some (.string a0_2) := (blk_cell BK101.out 2).trans rfl
                                    have hfz304_0 := blk_frozen BK101.out 0
                                    have hfz304_1 := blk_frozen BK101.out 1
                                    have hfz304_2 := blk_frozen BK101.out 2
                                    have hnb305 := NB102_103.out
                                    have hnc305 := NB103_102.out
                                    have hcz306_0 : wc.cell? ⟨gb102, 0, none⟩ = some (.int .i64 a1_0) := (blk_cell BK102.out 0).trans rfl
                                    have hcz306_1 : wc.cell? ⟨gb102, 1, none⟩ = some (.int .i64 a1_1) := (blk_cell BK102.out 1).trans rfl
                                    have hcz306_2 : wc.cell? ⟨gb102, 2, none⟩ = some (.string a1_2) := (blk_cell BK102.out 2).trans rfl
                                    have hfz306_0 := blk_frozen BK102.out 0
                                    have hfz306_1 := blk_frozen BK102.out 1
                                    have hfz306_2 := blk_frozen BK102.out 2
                                    go_wp2
                                    go_ret
                                    exact ⟨by first | rfl | (simp [errW_none, errW_some] <;> rfl) | (simp [*, errW_none, errW_some] <;> rfl), by repeat (first | (with_reducible first | exact HB.out | apply below_alloc | apply pw_below_drewN | apply below_drew1 | refine below_set ?_ GE101.out | refine below_set ?_ GE102.out | refine below_set ?_ GE103.out) | exact HB.out)⟩
                              · rw [if_neg c295] at H
                                have c295b0 : (a0_0 == a1_0) = false := beq_eq_false_iff_ne.mpr c295
                                have c295b1 : (a0_0 != a1_0) = true := bne_iff_ne.mpr c295
                                as_aux_lemma =>
                                  obtain rfl := Option.some.inj H
                                  have hnb307 := NB101_102.out
                                  have hnc307 := NB102_101.out
                                  have hnb308 := NB101_103.out
                                  have hnc308 := NB103_101.out
                                  have hcz309_0 : wc.cell? ⟨gb101, 0, none⟩ = some (.int .i64 a0_0) := (blk_cell BK101.out 0).trans rfl
                                  have hcz309_1 : wc.cell? ⟨gb101, 1, none⟩ = some (.int .i64 a0_1) := (blk_cell BK101.out 1).trans rfl
                                  have hcz309_2 : wc.cell? ⟨gb101, 2, none⟩ = some (.string a0_2) := (blk_cell BK101.out 2).trans rfl
                                  have hfz309_0 := blk_frozen BK101.out 0
                                  have hfz309_1 := blk_frozen BK101.out 1
                                  have hfz309_2 := blk_frozen BK101.out 2
                                  have hnb310 := NB102_103.out
                                  have hnc310 := NB103_102.out
                                  have hcz311_0 : wc.cell? ⟨gb102, 0, none⟩ = some (.int .i64 a1_0) := (blk_cell BK102.out 0).trans rfl
                                  have hcz311_1 : wc.cell? ⟨gb102, 1, none⟩ = some (.int .i64 a1_1) := (blk_cell BK102.out 1).trans rfl
                                  have hcz311_2 : wc.cell? ⟨gb102, 2, none⟩ = some (.string a1_2) := (blk_cell BK102.out 2).trans rfl
                                  have hfz311_0 := blk_frozen BK102.out 0
                                  have hfz311_1 := blk_frozen BK102.out 1
                                  have hfz311_2 := blk_frozen BK102.out 2
                                  go_wp2
                                  go_ret
                                  exact ⟨by first | rfl | (simp [errW_none, errW_some] <;> rfl) | (simp [*, errW_none, errW_some] <;> rfl), by repeat (first | (with_reducible first | exact HB.out | apply below_alloc | apply pw_below_drewN | apply below_drew1 | refine below_set ?_ GE101.out | refine below_set ?_ GE102.out | refine below_set ?_ GE103.out) | exact HB.out)⟩
                            · rw [if_neg c294] at H
                              have c294b0 : (t108 == 0) = false := beq_eq_false_iff_ne.mpr c294
                              have c294b1 : (t108 != 0) = true := bne_iff_ne.mpr c294
                              as_aux_lemma =>
                                obtain rfl := Option.some.inj H
                                have hnb312 := NB101_102.out
                                have hnc312 := NB102_101.out
                                have hnb313 := NB101_103.out
                                have hnc313 := NB103_101.out
                                have hcz314_0 : wc.cell? ⟨gb101, 0, none⟩ = some (.int .i64 a0_0) := (blk_cell BK101.out 0).trans rfl
                                have hcz314_1 : wc.cell? ⟨gb101, 1, none⟩ = some (.int .i64 a0_1) := (blk_cell BK101.out 1).trans rfl
                                have hcz314_2 : wc.cell? ⟨gb101, 2, none⟩ = some (.string a0_2) := (blk_cell BK101.out 2).trans rfl
                                have hfz314_0 := blk_frozen BK101.out 0
                                have hfz314_1 := blk_frozen BK101.out 1
                                have hfz314_2 := blk_frozen BK101.out 2
                                have hnb315 := NB102_103.out
                                have hnc315 := NB103_102.out
                                have hcz316_0 : wc.cell? ⟨gb102, 0, none⟩ = some (.int .i64 a1_0) := (blk_cell BK102.out 0).trans rfl
                                have hcz316_1 : wc.cell? ⟨gb102, 1, none⟩ = some (.int .i64 a1_1) := (blk_cell BK102.out 1).trans rfl
                                have hcz316_2 : wc.cell? ⟨gb102, 2, none⟩ = some (.string a1_2) := (blk_cell BK102.out 2).trans rfl
                                have hfz316_0 := blk_frozen BK102.out 0
                                have hfz316_1 := blk_frozen BK102.out 1
                                have hfz316_2 := blk_frozen BK102.out 2
                                go_wp2
                                go_ret
                                exact ⟨by first | rfl | (simp [errW_none, errW_some] <;> rfl) | (simp [*, errW_none, errW_some] <;> rfl), by repeat (first | (with_reducible first | exact HB.out | apply below_alloc | apply pw_below_drewN | apply below_drew1 | refine below_set ?_ GE101.out | refine below_set ?_ GE102.out | refine below_set ?_ GE103.out) | exact HB.out)⟩
                          · rw [if_neg c293] at H
                            have c293b0 : (a1_0 == 4) = false := beq_eq_false_iff_ne.mpr c293
                            have c293b1 : (a1_0 != 4) = true := bne_iff_ne.mpr c293
                            by_cases c317 : t108 = 1
                            · rw [if_pos c317] at H
                              have c317b0 : (t108 == 1) = true := beq_iff_eq.mpr c317
                              have c317b1 : (t108 != 1) = false := bne_eq_false_iff_eq.mpr c317
                              clear c317
                              by_cases c318 : t108 = 0
                              · rw [if_pos c318] at H
                                have c318b0 : (t108 == 0) = true := beq_iff_eq.mpr c318
                                have c318b1 : (t108 != 0) = false := bne_eq_false_iff_eq.mpr c318
                                clear c318
                                by_cases c319 : a0_0 = a1_0
                                · rw [if_pos c319] at H
                                  have c319b0 : (a0_0 == a1_0) = true := beq_iff_eq.mpr c319
                                  have c319b1 : (a0_0 != a1_0) = false := bne_eq_false_iff_eq.mpr c319
                                  clear c319
                                  by_cases c320 : (a0_1 == a1_1 && (a0_2.toList == a1_2.toList)) = true
                                  · rw [if_pos c320] at H
                                    have c320b0 : (a0_1 == a1_1 && (a0_2.toList == a1_2.toList)) = true := c320
                                    (try (have c320b1 : decide (a0_1 = a1_1 && (a0_2.toList == a1_2.toList)) = true := by simpa using c320))
                                    (try (have c320b2 : (a0_1 == a1_1 && (a0_2.toList == a1_2.toList)) = true := by simpa using c320))
                                    clear c320
                                    as_aux_lemma =>
                                      obtain rfl := Option.some.inj H
                                      have hnb321 := NB101_102.out
                                      have hnc321 := NB102_101.out
                                      have hnb322 := NB101_103.out
                                      have hnc322 := NB103_101.out
                                      have hcz323_0 : wc.cell? ⟨gb101, 0, none⟩ = some (.int .i64 a0_0) := (blk_cell BK101.out 0).trans rfl
                                      have hcz323_1 : wc.cell? ⟨gb101, 1, none⟩ = some (.int .i64 a0_1) := (blk_cell BK101.out 1).trans rfl
                                      have hcz323_2 : wc.cell? ⟨gb101, 2, none⟩ = some (.string a0_2) := (blk_cell BK101.out 2).trans rfl
                                      have hfz323_0 := blk_frozen BK101.out 0
                                      have hfz323_1 := blk_frozen BK101.out 1
                                      have hfz323_2 := blk_frozen BK101.out 2
                                      have hnb324 := NB102_103.out
                                      have hnc324 := NB103_102.out
                                      have hcz325_0 : wc.cell? ⟨gb102, 0, none⟩ = some (.int .i64 a1_0) := (blk_cell BK102.out 0).trans rfl
                                      have hcz325_1 : wc.cell? ⟨gb102, 1, none⟩ = some (.int .i64 a1_1) := (blk_cell BK102.out 1).trans rfl
                                      have hcz325_2 : wc.cell? ⟨gb102, 2, none⟩ = some (.string a1_2) := (blk_cell BK102.out 2).trans rfl
                                      have hfz325_0 := blk_frozen BK102.out 0
                                      have hfz325_1 := blk_frozen BK102.out 1
                                      have hfz325_2 := blk_frozen BK102.out 2
                                      go_wp2
                                      go_ret
                                      exact ⟨by first | rfl | (simp [errW_none, errW_some] <;> rfl) | (simp [*, errW_none, errW_some] <;> rfl), by repeat (first | (with_reducible first | exact HB.out | apply below_alloc | apply pw_below_drewN | apply below_drew1 | refine below_set ?_ GE101.out | refine below_set ?_ GE102.out | refine below_set ?_ GE103.out) | exact HB.out)⟩
                                  · rw [if_neg c320] at H
                                    have c320b0 : (a0_1 == a1_1 && (a0_2.toList == a1_2.toList)) = false := by simpa using c320
                                    (try (have c320b1 : decide (a0_1 = a1_1 && (a0_2.toList == a1_2.toList)) = false := by simpa using c320))
                                    (try (have c320b2 : (a0_1 == a1_1 && (a0_2.toList == a1_2.toList)) = false := by simpa using c320))
                                    (try (have c320b3 : ¬ (a0_1 = a1_1 && (a0_2.toList == a1_2.toList)) := by simpa using c320))
                                    clear c320
                                    as_aux_lemma =>
                                      obtain rfl := Option.some.inj H
                                      have hnb326 := NB101_102.out
                                      have hnc326 := NB102_101.out
                                      have hnb327 := NB101_103.out
                                      have hnc327 := NB103_101.out
                                      have hcz328_0 : wc.cell? ⟨gb101, 0, none⟩ = some (.int .i64 a0_0) := (blk_cell BK101.out 0).trans rfl
                                      have hcz328_1 : wc.cell? ⟨gb101, 1, none⟩ = some (.int .i64 a0_1) := (blk_cell BK101.out 1).trans rfl
                                      have hcz328_2 : wc.cell? ⟨gb101, 2, none⟩ = some (.string a0_2) := (blk_cell BK101.out 2).trans rfl
                                      have hfz328_0 := blk_frozen BK101.out 0
                                      have hfz328_1 := blk_frozen BK101.out 1
                                      have hfz328_2 := blk_frozen BK101.out 2
                                      have hnb329 := NB102_103.out
                                      have hnc329 := NB103_102.out
                                      have hcz330_0 : wc.cell? ⟨gb102, 0, none⟩ = some (.int .i64 a1_0) := (blk_cell BK102.out 0).trans rfl
                                      have hcz330_1 : wc.cell? ⟨gb102, 1, none⟩ = some (.int .i64 a1_1) := (blk_cell BK102.out 1).trans rfl
                                      have hcz330_2 : wc.cell? ⟨gb102, 2, none⟩ = some (.string a1_2) := (blk_cell BK102.out 2).trans rfl
                                      have hfz330_0 := blk_frozen BK102.out 0
                                      have hfz330_1 := blk_frozen BK102.out 1
                                      have hfz330_2 := blk_frozen BK102.out 2
                                      go_wp2
                                      go_ret
                                      exact ⟨by first | rfl | (simp [errW_none, errW_some] <;> rfl) | (simp [*, errW_none, errW_some] <;> rfl), by repeat (first | (with_reducible first | exact HB.out | apply below_alloc | apply pw_below_drewN | apply below_drew1 | refine below_set ?_ GE101.out | refine below_set ?_ GE102.out | refine below_set ?_ GE103.out) | exact HB.out)⟩
                                · rw [if_neg c319] at H
                                  have c319b0 : (a0_0 == a1_0) = false := beq_eq_false_iff_ne.mpr c319
                                  have c319b1 : (a0_0 != a1_0) = true := bne_iff_ne.mpr c319
                                  as_aux_lemma =>
                                    obtain rfl := Option.some.inj H
                                    have hnb331 := NB101_102.out
                                    have hnc331 := NB102_101.out
                                    have hnb332 := NB101_103.out
                                    have hnc332 := NB103_101.out
                                    have hcz333_0 : wc.cell? ⟨gb101, 0, none⟩ = some (.int .i64 a0_0) := (blk_cell BK101.out 0).trans rfl
                                    have hcz333_1 : wc.cell? ⟨gb101, 1, none⟩ = some (.int .i64 a0_1) := (blk_cell BK101.out 1).trans rfl
                                    have hcz333_2 : wc.cell? ⟨gb101, 2, none⟩ = some (.string a0_2) := (blk_cell BK101.out 2).trans rfl
                                    have hfz333_0 := blk_frozen BK101.out 0
                                    have hfz333_1 := blk_frozen BK101.out 1
                                    have hfz333_2 := blk_frozen BK101.out 2
                                    have hnb334 := NB102_103.out
                                    have hnc334 := NB103_102.out
                                    have hcz335_0 : wc.cell? ⟨gb102, 0, none⟩ = some (.int .i64 a1_0) := (blk_cell BK102.out 0).trans rfl
                                    have hcz335_1 : wc.cell? ⟨gb102, 1, none⟩ = some (.int .i64 a1_1) := (blk_cell BK102.out 1).trans rfl
                                    have hcz335_2 : wc.cell? ⟨gb102, 2, none⟩ = some (.string a1_2) := (blk_cell BK102.out 2).trans rfl
                                    have hfz335_0 := blk_frozen BK102.out 0
                                    have hfz335_1 := blk_frozen BK102.out 1
                                    have hfz335_2 := blk_frozen BK102.out 2
                                    go_wp2
                                    go_ret
                                    exact ⟨by first | rfl | (simp [errW_none, errW_some] <;> rfl) | (simp [*, errW_none, errW_some] <;> rfl), by repeat (first | (with_reducible first | exact HB.out | apply below_alloc | apply pw_below_drewN | apply below_drew1 | refine below_set ?_ GE101.out | refine below_set ?_ GE102.out | refine below_set ?_ GE103.out) | exact HB.out)⟩
                              · rw [if_neg c318] at H
                                have c318b0 : (t108 == 0) = false := beq_eq_false_iff_ne.mpr c318
                                have c318b1 : (t108 != 0) = true := bne_iff_ne.mpr c318
                                as_aux_lemma =>
                                  obtain rfl := Option.some.inj H
                                  have hnb336 := NB101_102.out
                                  have hnc336 := NB102_101.out
                                  have hnb337 := NB101_103.out
                                  have hnc337 := NB103_101.out
                                  have hcz338_0 : wc.cell? ⟨gb101, 0, none⟩ = some (.int .i64 a0_0) := (blk_cell BK101.out 0).trans rfl
                                  have hcz338_1 : wc.cell? ⟨gb101, 1, none⟩ = some (.int .i64 a0_1) := (blk_cell BK101.out 1).trans rfl
                                  have hcz338_2 : wc.cell? ⟨gb101, 2, none⟩ = some (.string a0_2) := (blk_cell BK101.out 2).trans rfl
                                  have hfz338_0 := blk_frozen BK101.out 0
                                  have hfz338_1 := blk_frozen BK101.out 1
                                  have hfz338_2 := blk_frozen BK101.out 2
                                  have hnb339 := NB102_103.out
                                  have hnc339 := NB103_102.out
                                  have hcz340_0 : wc.cell? ⟨gb102, 0, none⟩ = some (.int .i64 a1_0) := (blk_cell BK102.out 0).trans rfl
                                  have hcz340_1 : wc.cell? ⟨gb102, 1, none⟩ = some (.int .i64 a1_1) := (blk_cell BK102.out 1).trans rfl
                                  have hcz340_2 : wc.cell? ⟨gb102, 2, none⟩ = some (.string a1_2) := (blk_cell BK102.out 2).trans rfl
                                  have hfz340_0 := blk_frozen BK102.out 0
                                  have hfz340_1 := blk_frozen BK102.out 1
                                  have hfz340_2 := blk_frozen BK102.out 2
                                  go_wp2
                                  go_ret
                                  exact ⟨by first | rfl | (simp [errW_none, errW_some] <;> rfl) | (simp [*, errW_none, errW_some] <;> rfl), by repeat (first | (with_reducible first | exact HB.out | apply below_alloc | apply pw_below_drewN | apply below_drew1 | refine below_set ?_ GE101.out | refine below_set ?_ GE102.out | refine below_set ?_ GE103.out) | exact HB.out)⟩
                            · rw [if_neg c317] at H
                              have c317b0 : (t108 == 1) = false := beq_eq_false_iff_ne.mpr c317
                              have c317b1 : (t108 != 1) = true := bne_iff_ne.mpr c317
                              as_aux_lemma =>
                                obtain rfl := Option.some.inj H
                                have hnb341 := NB101_102.out
                                have hnc341 := NB102_101.out
                                have hnb342 := NB101_103.out
                                have hnc342 := NB103_101.out
                                have hcz343_0 : wc.cell? ⟨gb101, 0, none⟩ = some (.int .i64 a0_0) := (blk_cell BK101.out 0).trans rfl
                                have hcz343_1 : wc.cell? ⟨gb101, 1, none⟩ = some (.int .i64 a0_1) := (blk_cell BK101.out 1).trans rfl
                                have hcz343_2 : wc.cell? ⟨gb101, 2, none⟩ = some (.string a0_2) := (blk_cell BK101.out 2).trans rfl
                                have hfz343_0 := blk_frozen BK101.out 0
                                have hfz343_1 := blk_frozen BK101.out 1
                                have hfz343_2 := blk_frozen BK101.out 2
                                have hnb344 := NB102_103.out
                                have hnc344 := NB103_102.out
                                have hcz345_0 : wc.cell? ⟨gb102, 0, none⟩ = some (.int .i64 a1_0) := (blk_cell BK102.out 0).trans rfl
                                have hcz345_1 : wc.cell? ⟨gb102, 1, none⟩ = some (.int .i64 a1_1) := (blk_cell BK102.out 1).trans rfl
                                have hcz345_2 : wc.cell? ⟨gb102, 2, none⟩ = some (.string a1_2) := (blk_cell BK102.out 2).trans rfl
                                have hfz345_0 := blk_frozen BK102.out 0
                                have hfz345_1 := blk_frozen BK102.out 1
                                have hfz345_2 := blk_frozen BK102.out 2
                                go_wp2
                                go_ret
                                exact ⟨by first | rfl | (simp [errW_none, errW_some] <;> rfl) | (simp [*, errW_none, errW_some] <;> rfl), by repeat (first | (with_reducible first | exact HB.out | apply below_alloc | apply pw_below_drewN | apply below_drew1 | refine below_set ?_ GE101.out | refine below_set ?_ GE102.out | refine below_set ?_ GE103.out) | exact HB.out)⟩
                        · rw [if_neg c292] at H
                          have c292b0 : (a0_0 == 4) = false := beq_eq_false_iff_ne.mpr c292
                          have c292b1 : (a0_0 != 4) = true := bne_iff_ne.mpr c292
                          by_cases c346 : t108 = 0
                          · rw [if_pos c346] at H
                            have c346b0 : (t108 == 0) = true := beq_iff_eq.mpr c346
                            have c346b1 : (t108 != 0) = false := bne_eq_false_iff_eq.mpr c346
                            clear c346
                            by_cases c347 : a0_0 = a1_0
                            · rw [if_pos c347] at H
                              have c347b0 : (a0_0 == a1_0) = true := beq_iff_eq.mpr c347
                              have c347b1 : (a0_0 != a1_0) = false := bne_eq_false_iff_eq.mpr c347
                              clear c347
                              by_cases c348 : (a0_1 == a1_1 && (a0_2.toList == a1_2.toList)) = true
                              · rw [if_pos c348] at H
                                have c348b0 : (a0_1 == a1_1 && (a0_2.toList == a1_2.toList)) = true := c348
                                (try (have c348b1 : decide (a0_1 = a1_1 && (a0_2.toList == a1_2.toList)) = true := by simpa using c348))
                                (try (have c348b2 : (a0_1 == a1_1 && (a0_2.toList == a1_2.toList)) = true := by simpa using c348))
                                clear c348
                                as_aux_lemma =>
                                  obtain rfl := Option.some.inj H
                                  have hnb349 := NB101_102.out
                                  have hnc349 := NB102_101.out
                                  have hnb350 := NB101_103.out
                                  have hnc350 := NB103_101.out
                                  have hcz351_0 : wc.cell? ⟨gb101, 0, none⟩ = some (.int .i64 a0_0) := (blk_cell BK101.out 0).trans rfl
                                  have hcz351_1 : wc.cell? ⟨gb101, 1, none⟩ = some (.int .i64 a0_1) := (blk_cell BK101.out 1).trans rfl
                                  have hcz351_2 : wc.cell? ⟨gb101, 2, none⟩ = some (.string a0_2) := (blk_cell BK101.out 2).trans rfl
                                  have hfz351_0 := blk_frozen BK101.out 0
                                  have hfz351_1 := blk_frozen BK101.out 1
                                  have hfz351_2 := blk_frozen BK101.out 2
                                  have hnb352 := NB102_103.out
                                  have hnc352 := NB103_102.out
                                  have hcz353_0 : wc.cell? ⟨gb102, 0, none⟩ = some (.int .i64 a1_0) := (blk_cell BK102.out 0).trans rfl
                                  have hcz353_1 : wc.cell? ⟨gb102, 1, none⟩ = some (.int .i64 a1_1) := (blk_cell BK102.out 1).trans rfl
                                  have hcz353_2 : wc.cell? ⟨gb102, 2, none⟩ = some (.string a1_2) := (blk_cell BK102.out 2).trans rfl
                                  have hfz353_0 := blk_frozen BK102.out 0
                                  have hfz353_1 := blk_frozen BK102.out 1
                                  have hfz353_2 := blk_frozen BK102.out 2
                                  go_wp2
                                  go_ret
                                  exact ⟨by first | rfl | (simp [errW_none, errW_some] <;> rfl) | (simp [*, errW_none, errW_some] <;> rfl), by repeat (first | (with_reducible first | exact HB.out | apply below_alloc | apply pw_below_drewN | apply below_drew1 | refine below_set ?_ GE101.out | refine below_set ?_ GE102.out | refine below_set ?_ GE103.out) | exact HB.out)⟩
                              · rw [if_neg c348] at H
                                have c348b0 : (a0_1 == a1_1 && (a0_2.toList == a1_2.toList)) = false := by simpa using c348
                                (try (have c348b1 : decide (a0_1 = a1_1 && (a0_2.toList == a1_2.toList)) = false := by simpa using c348))
                                (try (have c348b2 : (a0_1 == a1_1 && (a0_2.toList == a1_2.toList)) = false := by simpa using c348))
                                (try (have c348b3 : ¬ (a0_1 = a1_1 && (a0_2.toList == a1_2.toList)) := by simpa using c348))
                                clear c348
                                by_cases c354 : a1_0 = 4
                                · rw [if_pos c354] at H
                                  have c354b0 : (a1_0 == 4) = true := beq_iff_eq.mpr c354
                                  have c354b1 : (a1_0 != 4) = false := bne_eq_false_iff_eq.mpr c354
                                  clear c354
                                  as_aux_lemma =>
                                    obtain rfl := Option.some.inj H
                                    have hnb355 := NB101_102.out
                                    have hnc355 := NB102_101.out
                                    have hnb356 := NB101_103.out
                                    have hnc356 := NB103_101.out
                                    have hcz357_0 : wc.cell? ⟨gb101, 0, none⟩ = some (.int .i64 a0_0) := (blk_cell BK101.out 0).trans rfl
                                    have hcz357_1 : wc.cell? ⟨gb101, 1, none⟩ = some (.int .i64 a0_1) := (blk_cell BK101.out 1).trans rfl
                                    have hcz357_2 : wc.cell? ⟨gb101, 2, none⟩ = some (.string a0_2) := (blk_cell BK101.out 2).trans rfl
                                    have hfz357_0 := blk_frozen BK101.out 0
                                    have hfz357_1 := blk_frozen BK101.out 1
                                    have hfz357_2 := blk_frozen BK101.out 2
                                    have hnb358 := NB102_103.out
                                    have hnc358 := NB103_102.out
                                    have hcz359_0 : wc.cell? ⟨gb102, 0, none⟩ = some (.int .i64 a1_0) := (blk_cell BK102.out 0).trans rfl
                                    have hcz359_1 : wc.cell? ⟨gb102, 1, none⟩ = some (.int .i64 a1_1) := (blk_cell BK102.out 1).trans rfl
                                    have hcz359_2 : wc.cell? ⟨gb102, 2, none⟩ = some (.string a1_2) := (blk_cell BK102.out 2).trans rfl
                                    have hfz359_0 := blk_frozen BK102.out 0
                                    have hfz359_1 := blk_frozen BK102.out 1
                                    have hfz359_2 := blk_frozen BK102.out 2
                                    go_wp2
                                    go_ret
                                    exact ⟨by first | rfl | (simp [errW_none, errW_some] <;> rfl) | (simp [*, errW_none, errW_some] <;> rfl), by repeat (first | (with_reducible first | exact HB.out | apply below_alloc | apply pw_below_drewN | apply below_drew1 | refine below_set ?_ GE101.out | refine below_set ?_ GE102.out | refine below_set ?_ GE103.out) | exact HB.out)⟩
                                · rw [if_neg c354] at H
                                  have c354b0 : (a1_0 == 4) = false := beq_eq_false_iff_ne.mpr c354
                                  have c354b1 : (a1_0 != 4) = true := bne_iff_ne.mpr c354
                                  as_aux_lemma =>
                                    obtain rfl := Option.some.inj H
                                    have hnb360 := NB101_102.out
                                    have hnc360 := NB102_101.out
                                    have hnb361 := NB101_103.out
                                    have hnc361 := NB103_101.out
                                    have hcz362_0 : wc.cell? ⟨gb101, 0, none⟩ = some (.int .i64 a0_0) := (blk_cell BK101.out 0).trans rfl
                                    have hcz362_1 : wc.cell? ⟨gb101, 1, none⟩ = some (.int .i64 a0_1) := (blk_cell BK101.out 1).trans rfl
                                    have hcz362_2 : wc.cell? ⟨gb101, 2, none⟩ = some (.string a0_2) := (blk_cell BK101.out 2).trans rfl
                                    have hfz362_0 := blk_frozen BK101.out 0
                                    have hfz362_1 := blk_frozen BK101.out 1
                                    have hfz362_2 := blk_frozen BK101.out 2
                                    have hnb363 := NB102_103.out
                                    have hnc363 := NB103_102.out
                                    have hcz364_0 : wc.cell? ⟨gb102, 0, none⟩ = some (.int .i64 a1_0) := (blk_cell BK102.out 0).trans rfl
                                    have hcz364_1 : wc.cell? ⟨gb102, 1, none⟩ = some (.int .i64 a1_1) := (blk_cell BK102.out 1).trans rfl
                                    have hcz364_2 : wc.cell? ⟨gb102, 2, none⟩ = some (.string a1_2) := (blk_cell BK102.out 2).trans rfl
                                    have hfz364_0 := blk_frozen BK102.out 0
                                    have hfz364_1 := blk_frozen BK102.out 1
                                    have hfz364_2 := blk_frozen BK102.out 2
                                    go_wp2
                                    go_ret
                                    exact ⟨by first | rfl | (simp [errW_none, errW_some] <;> rfl) | (simp [*, errW_none, errW_some] <;> rfl), by repeat (first | (with_reducible first | exact HB.out | apply below_alloc | apply pw_below_drewN | apply below_drew1 | refine below_set ?_ GE101.out | refine below_set ?_ GE102.out | refine below_set ?_ GE103.out) | exact HB.out)⟩
                            · rw [if_neg c347] at H
                              have c347b0 : (a0_0 == a1_0) = false := beq_eq_false_iff_ne.mpr c347
                              have c347b1 : (a0_0 != a1_0) = true := bne_iff_ne.mpr c347
                              by_cases c365 : a1_0 = 4
                              · rw [if_pos c365] at H
                                have c365b0 : (a1_0 == 4) = true := beq_iff_eq.mpr c365
                                have c365b1 : (a1_0 != 4) = false := bne_eq_false_iff_eq.mpr c365
                                clear c365
                                as_aux_lemma =>
                                  obtain rfl := Option.some.inj H
                                  have hnb366 := NB101_102.out
                                  have hnc366 := NB102_101.out
                                  have hnb367 := NB101_103.out
                                  have hnc367 := NB103_101.out
                                  have hcz368_0 : wc.cell? ⟨gb101, 0, none⟩ = some (.int .i64 a0_0) := (blk_cell BK101.out 0).trans rfl
                                  have hcz368_1 : wc.cell? ⟨gb101, 1, none⟩ = some (.int .i64 a0_1) := (blk_cell BK101.out 1).trans rfl
                                  have hcz368_2 : wc.cell? ⟨gb101, 2, none⟩ = some (.string a0_2) := (blk_cell BK101.out 2).trans rfl
                                  have hfz368_0 := blk_frozen BK101.out 0
                                  have hfz368_1 := blk_frozen BK101.out 1
                                  have hfz368_2 := blk_frozen BK101.out 2
                                  have hnb369 := NB102_103.out
                                  have hnc369 := NB103_102.out
                                  have hcz370_0 : wc.cell? ⟨gb102, 0, none⟩ = some (.int .i64 a1_0) := (blk_cell BK102.out 0).trans rfl
                                  have hcz370_1 : wc.cell? ⟨gb102, 1, none⟩ = some (.int .i64 a1_1) := (blk_cell BK102.out 1).trans rfl
                                  have hcz370_2 : wc.cell? ⟨gb102, 2, none⟩ = some (.string a1_2) := (blk_cell BK102.out 2).trans rfl
                                  have hfz370_0 := blk_frozen BK102.out 0
                                  have hfz370_1 := blk_frozen BK102.out 1
                                  have hfz370_2 := blk_frozen BK102.out 2
                                  go_wp2
                                  go_ret
                                  exact ⟨by first | rfl | (simp [errW_none, errW_some] <;> rfl) | (simp [*, errW_none, errW_some] <;> rfl), by repeat (first | (with_reducible first | exact HB.out | apply below_alloc | apply pw_below_drewN | apply below_drew1 | refine below_set ?_ GE101.out | refine below_set ?_ GE102.out | refine below_set ?_ GE103.out) | exact HB.out)⟩
                              · rw [if_neg c365] at H
                                have c365b0 : (a1_0 == 4) = false := beq_eq_false_iff_ne.mpr c365
                                have c365b1 : (a1_0 != 4) = true := bne_iff_ne.mpr c365
                                as_aux_lemma =>
                                  obtain rfl := Option.some.inj H
                                  have hnb371 := NB101_102.out
                                  have hnc371 := NB102_101.out
                                  have hnb372 := NB101_103.out
                                  have hnc372 := NB103_101.out
                                  have hcz373_0 : wc.cell? ⟨gb101, 0, none⟩ = some (.int .i64 a0_0) := (blk_cell BK101.out 0).trans rfl
                                  have hcz373_1 : wc.cell? ⟨gb101, 1, none⟩ = some (.int .i64 a0_1) := (blk_cell BK101.out 1).trans rfl
                                  have hcz373_2 : wc.cell? ⟨gb101, 2, none⟩ = some (.string a0_2) := (blk_cell BK101.out 2).trans rfl
                                  have hfz373_0 := blk_frozen BK101.out 0
                                  have hfz373_1 := blk_frozen BK101.out 1
                                  have hfz373_2 := blk_frozen BK101.out 2
                                  have hnb374 := NB102_103.out
                                  have hnc374 := NB103_102.out
                                  have hcz375_0 : wc.cell? ⟨gb102, 0, none⟩ = some (.int .i64 a1_0) := (blk_cell BK102.out 0).trans rfl
                                  have hcz375_1 : wc.cell? ⟨gb102, 1, none⟩ = some (.int .i64 a1_1) := (blk_cell BK102.out 1).trans rfl
                                  have hcz375_2 : wc.cell? ⟨gb102, 2, none⟩ = some (.string a1_2) := (blk_cell BK102.out 2).trans rfl
                                  have hfz375_0 := blk_frozen BK102.out 0
                                  have hfz375_1 := blk_frozen BK102.out 1
                                  have hfz375_2 := blk_frozen BK102.out 2
                                  go_wp2
                                  go_ret
                                  exact ⟨by first | rfl | (simp [errW_none, errW_some] <;> rfl) | (simp [*, errW_none, errW_some] <;> rfl), by repeat (first | (with_reducible first | exact HB.out | apply below_alloc | apply pw_below_drewN | apply below_drew1 | refine below_set ?_ GE101.out | refine below_set ?_ GE102.out | refine below_set ?_ GE103.out) | exact HB.out)⟩
                          · rw [if_neg c346] at H
                            have c346b0 : (t108 == 0) = false := beq_eq_false_iff_ne.mpr c346
                            have c346b1 : (t108 != 0) = true := bne_iff_ne.mpr c346
                            as_aux_lemma =>
                              obtain rfl := Option.some.inj H
                              have hnb376 := NB101_102.out
                              have hnc376 := NB102_101.out
                              have hnb377 := NB101_103.out
                              have hnc377 := NB103_101.out
                              have hcz378_0 : wc.cell? ⟨gb101, 0, none⟩ = some (.int .i64 a0_0) := (blk_cell BK101.out 0).trans rfl
                              have hcz378_1 : wc.cell? ⟨gb101, 1, none⟩ = some (.int .i64 a0_1) := (blk_cell BK101.out 1).trans rfl
                              have hcz378_2 : wc.cell? ⟨gb101, 2, none⟩ = some (.string a0_2) := (blk_cell BK101.out 2).trans rfl
                              have hfz378_0 := blk_frozen BK101.out 0
                              have hfz378_1 := blk_frozen BK101.out 1
                              have hfz378_2 := blk_frozen BK101.out 2
                              go_wp2
                              go_ret
                              exact ⟨by first | rfl | (simp [errW_none, errW_some] <;> rfl) | (simp [*, errW_none, errW_some] <;> rfl), by repeat (first | (with_reducible first | exact HB.out | apply below_alloc | apply pw_below_drewN | apply below_drew1 | refine below_set ?_ GE101.out | refine below_set ?_ GE102.out | refine below_set ?_ GE103.out) | exact HB.out)⟩
  · replace c5 := Bool.eq_false_iff.mpr c5
    subst c5
    have H1 : (some false) = some r := by rw [if_neg (show ¬ (false = true) by decide)] at H; exact H
    clear H
    have H := H1
    clear H1
    as_aux_lemma =>
      obtain rfl := Option.some.inj H
      go_enter Tryd.func4, Tryd.ntmps4
      go_wp2_with (first | ((with_reducible refine gate_dst (N := 3) rfl ?_); refine box_event ?hg (N := 3) ?hd (cs := #[.int .i64 a0_0, .int .i64 a0_1, .string a0_2]) (t := 23) ?hr ?_; (case hd => rfl); (case hg => rfl); (case hr => first | (go_simp; done) | (go_simp; rfl)); intro gb101 hg w379 hbox hb; have n0_ := Aside0.mk (below_step (by repeat (first | (with_reducible first | exact HB.out | apply below_alloc | apply pw_below_drewN | apply below_drew1) | exact HB.out)) hb); have n1_ := Aside0.mk (hbox); have n2_ := Aside0.mk ((by rw [hg]; exact (below_size (by repeat (first | (with_reducible first | exact HB.out | apply below_alloc | apply pw_below_drewN | apply below_drew1) | exact HB.out))) : w.heap.size ≤ gb101)); have n3_ := Aside0.mk ((by rw [hg]; exact (below_size (by repeat (first | (with_reducible first | exact HB.out | apply below_alloc | apply pw_below_drewN | apply below_drew1) | exact HB.out))) : w.heap.size ≤ gb101)); clear HB; have HB := n0_; have BK101 := n1_; have GW101 := n2_; have GE101 := n3_; clear n0_ n1_ n2_ n3_; clear hb hbox hg) | ((with_reducible refine gate_dst (N := 4) rfl ?_); refine box_event ?hg (N := 4) ?hd (cs := #[.int .i64 a1_0, .int .i64 a1_1, .string a1_2]) (t := 23) ?hr ?_; (case hd => rfl); (case hg => rfl); (case hr => first | (go_simp; done) | (go_simp; rfl)); intro gb102 hg w380 hbox hb; have n0_ := Aside0.mk (blk_below (g := gb101) (o := .cells #[.int .i64 a0_0, .int .i64 a0_1, .string a0_2] 23 (0, 0)) (by (with_reducible repeat (first | refine blk_drewN ?_ _ | refine blk_drew ?_ | refine blk_alloc ?_ _)); exact BK101.out) hb); have n1_ := Aside0.mk (below_step (by repeat (first | (with_reducible first | exact HB.out | apply below_alloc | apply pw_below_drewN | apply below_drew1 | refine below_set ?_ GE101.out) | exact HB.out)) hb); have n2_ := Aside0.mk (hbox); have n3_ := Aside0.mk ((by rw [hg]; exact (below_size (by repeat (first | (with_reducible first | exact HB.out | apply below_alloc | apply pw_below_drewN | apply below_drew1 | refine below_set ?_ GE101.out) | exact HB.out))) : w.heap.size ≤ gb102)); have n4_ := Aside0.mk ((by rw [hg]; exact (below_size (by repeat (first | (with_reducible first | exact HB.out | apply below_alloc | apply pw_below_drewN | apply below_drew1 | refine below_set ?_ GE101.out) | exact HB.out))) : w.heap.size ≤ gb102)); have n5_ := Aside0.mk ((by rw [hg]; exact Nat.ne_of_lt (blk_lt (g := gb101) (o := .cells #[.int .i64 a0_0, .int .i64 a0_1, .string a0_2] 23 (0, 0)) (by (with_reducible repeat (first | refine blk_drewN ?_ _ | refine blk_drew ?_ | refine blk_alloc ?_ _)); exact BK101.out)) : gb101 ≠ gb102)); have n6_ := Aside0.mk ((by rw [hg]; exact Nat.ne_of_gt (blk_lt (g := gb101) (o := .cells #[.int .i64 a0_0, .int .i64 a0_1, .string a0_2] 23 (0, 0)) (by (with_reducible repeat (first | refine blk_drewN ?_ _ | refine blk_drew ?_ | refine blk_alloc ?_ _)); exact BK101.out)) : gb102 ≠ gb101)); clear BK101; clear HB; have BK101 := n0_; have HB := n1_; have BK102 := n2_; have GW102 := n3_; have GE102 := n4_; have NB101_102 := n5_; have NB102_101 := n6_; clear n0_ n1_ n2_ n3_ n4_ n5_ n6_; clear hb hbox hg) | ((with_reducible refine gate_dst (N := 5) rfl ?_); refine box_event ?hg (N := 5) ?hd (cs := #[.int .i64 a2_0, .int .i64 a2_1, .string a2_2]) (t := 23) ?hr ?_; (case hd => rfl); (case hg => rfl); (case hr => first | (go_simp; done) | (go_simp; rfl)); intro gb103 hg w381 hbox hb; have n0_ := Aside0.mk (blk_below (g := gb101) (o := .cells #[.int .i64 a0_0, .int .i64 a0_1, .string a0_2] 23 (0, 0)) (by (with_reducible repeat (first | refine blk_drewN ?_ _ | refine blk_drew ?_ | refine blk_alloc ?_ _)); exact BK101.out) hb); have n1_ := Aside0.mk (blk_below (g := gb102) (o := .cells #[.int .i64 a1_0, .int .i64 a1_1, .string a1_2] 23 (0, 0)) (by (with_reducible repeat (first | refine blk_drewN ?_ _ | refine blk_drew ?_ | refine blk_alloc ?_ _)); exact BK102.out) hb); have n2_ := Aside0.mk (below_step (by repeat (first | (with_reducible first | exact HB.out | apply below_alloc | apply pw_below_drewN | apply below_drew1 | refine below_set ?_ GE101.out | refine below_set ?_ GE102.out) | exact HB.out)) hb); have n3_ := Aside0.mk (hbox); have n4_ := Aside0.mk ((by rw [hg]; exact (below_size (by repeat (first | (with_reducible first | exact HB.out | apply below_alloc | apply pw_below_drewN | apply below_drew1 | refine below_set ?_ GE101.out | refine below_set ?_ GE102.out) | exact HB.out))) : w.heap.size ≤ gb103)); have n5_ := Aside0.mk ((by rw [hg]; exact (below_size (by repeat (first | (with_reducible first | exact HB.out | apply below_alloc | apply pw_below_drewN | apply below_drew1 | refine below_set ?_ GE101.out | refine below_set ?_ GE102.out) | exact HB.out))) : w.heap.size ≤ gb103)); have n6_ := Aside0.mk ((by rw [hg]; exact Nat.ne_of_lt (blk_lt (g := gb101) (o := .cells #[.int .i64 a0_0, .int .i64 a0_1, .string a0_2] 23 (0, 0)) (by (with_reducible repeat (first | refine blk_drewN ?_ _ | refine blk_drew ?_ | refine blk_alloc ?_ _)); exact BK101.out)) : gb101 ≠ gb103)); have n7_ := Aside0.mk ((by rw [hg]; exact Nat.ne_of_gt (blk_lt (g := gb101) (o := .cells #[.int .i64 a0_0, .int .i64 a0_1, .string a0_2] 23 (0, 0)) (by (with_reducible repeat (first | refine blk_drewN ?_ _ | refine blk_drew ?_ | refine blk_alloc ?_ _)); exact BK101.out)) : gb103 ≠ gb101)); have n8_ := Aside0.mk ((by rw [hg]; exact Nat.ne_of_lt (blk_lt (g := gb102) (o := .cells #[.int .i64 a1_0, .int .i64 a1_1, .string a1_2] 23 (0, 0)) (by (with_reducible repeat (first | refine blk_drewN ?_ _ | refine blk_drew ?_ | refine blk_alloc ?_ _)); exact BK102.out)) : gb102 ≠ gb103)); have n9_ := Aside0.mk ((by rw [hg]; exact Nat.ne_of_gt (blk_lt (g := gb102) (o := .cells #[.int .i64 a1_0, .int .i64 a1_1, .string a1_2] 23 (0, 0)) (by (with_reducible repeat (first | refine blk_drewN ?_ _ | refine blk_drew ?_ | refine blk_alloc ?_ _)); exact BK102.out)) : gb103 ≠ gb102)); clear BK101; clear BK102; clear HB; have BK101 := n0_; have BK102 := n1_; have HB := n2_; have BK103 := n3_; have GW103 := n4_; have GE103 := n5_; have NB101_103 := n6_; have NB103_101 := n7_; have NB102_103 := n8_; have NB103_102 := n9_; clear n0_ n1_ n2_ n3_ n4_ n5_ n6_ n7_ n8_ n9_; clear hb hbox hg) | ((with_reducible refine gate_callee (f := 8) rfl ?_); refine goesL_ (some 11) rfl rfl Tryd.func8 (by kernel_rfl) rfl #[] rfl (by (try simp only [List.map_toArray, List.map_cons, List.map_nil]); first | done | rfl | (simp only [List.length_drop, List.length_take]; rfl)) ?_; (with_reducible refine (rabbetlaw1_begun.calls k  false _ ?side1 A4.out).mono ?_); (case side1 => exact Laid.mono HGL.out (by repeat (first | (with_reducible first | exact HB.out | apply below_alloc | apply pw_below_drewN | apply below_drew1 | refine below_set ?_ GE101.out | refine below_set ?_ GE102.out | refine below_set ?_ GE103.out) | exact HB.out))); rintro e w382 ⟨rfl, hb⟩; refine ⟨_, rfl, ?_⟩; have n0_ := Aside0.mk (blk_below (g := gb101) (o := .cells #[.int .i64 a0_0, .int .i64 a0_1, .string a0_2] 23 (0, 0)) (by (with_reducible repeat (first | refine blk_drewN ?_ _ | refine blk_drew ?_ | refine blk_alloc ?_ _)); exact BK101.out) hb); have n1_ := Aside0.mk (blk_below (g := gb102) (o := .cells #[.int .i64 a1_0, .int .i64 a1_1, .string a1_2] 23 (0, 0)) (by (with_reducible repeat (first | refine blk_drewN ?_ _ | refine blk_drew ?_ | refine blk_alloc ?_ _)); exact BK102.out) hb); have n2_ := Aside0.mk (blk_below (g := gb103) (o := .cells #[.int .i64 a2_0, .int .i64 a2_1, .string a2_2] 23 (0, 0)) (by (with_reducible repeat (first | refine blk_drewN ?_ _ | refine blk_drew ?_ | refine blk_alloc ?_ _)); exact BK103.out) hb); have n3_ := Aside0.mk (below_step (by repeat (first | (with_reducible first | exact HB.out | apply below_alloc | apply pw_below_drewN | apply below_drew1 | refine below_set ?_ GE101.out | refine below_set ?_ GE102.out | refine below_set ?_ GE103.out) | exact HB.out)) hb); clear BK101; clear BK102; clear BK103; clear HB; have BK101 := n0_; have BK102 := n1_; have BK103 := n2_; have HB := n3_; clear n0_ n1_ n2_ n3_; (try clear hb); (try clear hb2); (try clear hk); (try clear hi)))
      go_ret
      exact ⟨by first | rfl | (simp [errW_none, errW_some] <;> rfl) | (simp [*, errW_none, errW_some] <;> rfl), by repeat (first | (with_reducible first | exact HB.out | apply below_alloc | apply pw_below_drewN | apply below_drew1 | refine below_set ?_ GE101.out | refine below_set ?_ GE102.out | refine below_set ?_ GE103.out) | exact HB.out)⟩

end Go.Proofs.YtbkgdkhdmchdcaaDoor.PVO
