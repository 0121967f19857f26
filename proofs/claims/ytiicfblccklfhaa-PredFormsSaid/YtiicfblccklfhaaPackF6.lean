/- The closed law PredForms: it returns true (part 7 of 7: texts written by this claim's programs and by hand, joined) -/
import Derived.Test.YtiicfblccklfhaaRows
import Derived.WalkKit
import Derived.ProofKit
import Derived.OpenShut
import Derived.ShutString
import Derived.ChangeOld
import Derived.Below
import Derived.SizedLaws
import Derived.Deep.DeepHandedRow
import Derived.Stop.LaidErr
import Derived.Stop.LaidTwo
import Derived.Lib.SmallJoins
import Derived.Test.YtiicfblccklfhaaPackF0
import Derived.Test.YtiicfblccklfhaaPackF1
import Derived.Test.YtiicfblccklfhaaPackF2
import Derived.Test.YtiicfblccklfhaaPackF3
import Derived.Test.YtiicfblccklfhaaPackF4
import Derived.Test.YtiicfblccklfhaaPackF5
section
namespace Go.Proofs.Ytiicfblccklfhaa.PPG2
open Go.RowKit Go.Proofs.YtiicfblccklfhaaW.PrintWords Go.Proofs.YtiicfblccklfhaaW.PrintLast Go.Proofs.YtiicfblccklfhaaW.PrintMore
attribute [local go_sem] max2_int min2_int max_two min_two max_three min_three max_four min_four
open Go.Proofs.Ytiicfblccklfhaa.Ext Go.Proofs.Ytiicfblccklfhaa.PK Go.Proofs.Ytiicfblccklfhaa.PPF
set_option linter.unusedVariables false
set_option linter.unusedSimpArgs false
set_option maxHeartbeats 80000000 in
set_option maxRecDepth 100000 in
noncomputable def rabbetlaw23_PredForms.calls_r3_c : (p0_ : Prop) ×' (p1_ : Prop) ×' (p2_ : Prop) ×' (p3_ : Prop) ×' (p4_ : Prop) ×' (p5_ : Prop) ×' (p6_ : Prop) ×' (p7_ : Prop) ×' (p8_ : Prop) ×' (p9_ : Prop) ×' (p10_ : Prop) ×' (p0_ → p1_ → p2_ → p3_ → p4_ → p5_ → p6_ → p7_ → p8_ → p9_ → p10_ → (rabbetlaw23_PredForms.calls_c.2.2.2.1)) := by
  apply PSigma.mk
  apply PSigma.mk
  apply PSigma.mk
  apply PSigma.mk
  apply PSigma.mk
  apply PSigma.mk
  apply PSigma.mk
  apply PSigma.mk
  apply PSigma.mk
  apply PSigma.mk
  apply PSigma.mk
  ·intro hole0_ hole1_ hole2_ hole3_ hole4_ hole5_ hole6_ hole7_ hole8_ hole9_ hole10_
   intro k r w hu64 hu33 hu26 hu28 A1 y102 Ny102 y109 Ny109 y112 Ny112 y115 Ny115 y118 Ny118 y121 Ny121 y124 Ny124 y127 Ny127 y130 Ny130 y133 Ny133 y136 Ny136 y139 Ny139 y142 Ny142 y145 Ny145 y148 Ny148 y151 Ny151 y154 Ny154 y157 Ny157 xi0_ w3 w4 Ao6 co6 gb105 w7 GW105 GE105 gb106 w9 GW106 GE106 NB105_106 NB106_105 gb107 w10 GW107 GE107 NB105_107 NB107_105 NB106_107 NB107_106 hnb11 hnc11 hnb12 hnc12 hnb14 hnc14 gb108 w16 GW108 GE108 NB105_108 NB108_105 NB106_108 NB108_106 NB107_108 NB108_107 hnb17 hnc17 hnb18 hnc18 hnb19 hnc19 v110 w22 w25 w28 w31 w34 w36 w38 w40 w43 w45 w49 w53 w57 w62 w65 Ao67 co67 Ao68 co68 Ao69 co69 Ao70 co70 Ao71 co71 Ao72 co72 Ao73 co73 Ao74 co74 Ao75 co75 Ao76 co76 Ao77 co77 Ao78 co78 Ao79 co79 Ao80 co80 v155 w81 v158 w83 HO104 HO111 HO156 HO159 xi1_ xi2_ xi3_ xi4_ xi5_ xi6_ xi7_ wr u0 u74 u75 u76 u77 u78 u79 u80 u81 u82 u83 u84 u85 u86 u87 u88 u89 u90 u91 u92 u93 u94 u95 u96 u97 u98 u99 u100 xi8_ xi9_ xi10_ x8_1 HO_5 HO_6 HO_7 HO_106000 BK105 BK106 BK107 BK108 HB k1 xi11_ HK1 H c85b0 c107
   have c107b0 := eq_true c107
   have c107b1 : decide (9 ≤ 4398046511104) = true := decide_eq_true c107
   clear c107
   obtain ⟨y165, hy165⟩ : ∃ y_ : List (S28), y_ = (List.replicate 9 z28) := ⟨_, rfl⟩
   replace H : (rabbetlaw23_PredForms.l1 k1 (([y165, (([(⟨(⟨#[105]⟩ : ByteArray), 0, (⟨0, 0, (⟨#[]⟩ : ByteArray)⟩ : S26), false, false⟩ : S28)] : List (S28))), (([(⟨(⟨#[105]⟩ : ByteArray), 9, (⟨0, 0, (⟨#[]⟩ : ByteArray)⟩ : S26), false, false⟩ : S28)] : List (S28))), (([(⟨(⟨#[105]⟩ : ByteArray), 1, (⟨9, 0, (⟨#[]⟩ : ByteArray)⟩ : S26), false, false⟩ : S28)] : List (S28))), (([(⟨(⟨#[120]⟩ : ByteArray), 7, (⟨0, 0, (⟨#[]⟩ : ByteArray)⟩ : S26), false, false⟩ : S28)] : List (S28))), (([(⟨(⟨#[105]⟩ : ByteArray), 1, (⟨4, 0, (⟨#[98]⟩ : ByteArray)⟩ : S26), false, false⟩ : S28)] : List (S28))), (([(⟨(⟨#[116]⟩ : ByteArray), 1, (⟨2, 1, (⟨#[]⟩ : ByteArray)⟩ : S26), false, false⟩ : S28)] : List (S28))), (([(⟨(⟨#[120]⟩ : ByteArray), 7, (⟨0, 0, (⟨#[]⟩ : ByteArray)⟩ : S26), false, false⟩ : S28), (⟨(⟨#[105]⟩ : ByteArray), 0, (⟨0, 0, (⟨#[]⟩ : ByteArray)⟩ : S26), false, false⟩ : S28)] : List (S28)))] : List (List (S28)))) (([1, 1, 1, 1, 3, 4, 4, 1] : List Int)) 0 y102 2 4 0 (⟨#[98]⟩ : ByteArray)) = some r := by first | (rw [hy165]; with_reducible exact H) | (have H2_ := (Option.bind_some _ _).symm.trans H; rw [hy165]; with_reducible exact H2_) | (have H2_ := (Option.bind_some _ _).symm.trans H; with_reducible exact H2_) | with_reducible exact H | (rw [hy165]; exact H) | exact H
   have Ny165 := Aside0.mk hy165
   clear hy165
   obtain ⟨y168, hy168⟩ : ∃ y_ : List (S28), y_ = (([(⟨(⟨#[105]⟩ : ByteArray), 0, (⟨0, 0, (⟨#[]⟩ : ByteArray)⟩ : S26), false, false⟩ : S28)] : List (S28))) := ⟨_, rfl⟩
   replace H : (rabbetlaw23_PredForms.l1 k1 (([y165, y168, (([(⟨(⟨#[105]⟩ : ByteArray), 9, (⟨0, 0, (⟨#[]⟩ : ByteArray)⟩ : S26), false, false⟩ : S28)] : List (S28))), (([(⟨(⟨#[105]⟩ : ByteArray), 1, (⟨9, 0, (⟨#[]⟩ : ByteArray)⟩ : S26), false, false⟩ : S28)] : List (S28))), (([(⟨(⟨#[120]⟩ : ByteArray), 7, (⟨0, 0, (⟨#[]⟩ : ByteArray)⟩ : S26), false, false⟩ : S28)] : List (S28))), (([(⟨(⟨#[105]⟩ : ByteArray), 1, (⟨4, 0, (⟨#[98]⟩ : ByteArray)⟩ : S26), false, false⟩ : S28)] : List (S28))), (([(⟨(⟨#[116]⟩ : ByteArray), 1, (⟨2, 1, (⟨#[]⟩ : ByteArray)⟩ : S26), false, false⟩ : S28)] : List (S28))), (([(⟨(⟨#[120]⟩ : ByteArray), 7, (⟨0, 0, (⟨#[]⟩ : ByteArray)⟩ : S26), false, false⟩ : S28), (⟨(⟨#[105]⟩ : ByteArray), 0, (⟨0, 0, (⟨#[]⟩ : ByteArray)⟩ : S26), false, false⟩ : S28)] : List (S28)))] : List (List (S28)))) (([1, 1, 1, 1, 3, 4, 4, 1] : List Int)) 0 y102 2 4 0 (⟨#[98]⟩ : ByteArray)) = some r := by first | (rw [hy168]; with_reducible exact H) | (have H2_ := (Option.bind_some _ _).symm.trans H; rw [hy168]; with_reducible exact H2_) | (have H2_ := (Option.bind_some _ _).symm.trans H; with_reducible exact H2_) | with_reducible exact H | (rw [hy168]; exact H) | exact H
   have Ny168 := Aside0.mk hy168
   clear hy168
   obtain ⟨y171, hy171⟩ : ∃ y_ : List (S28), y_ = (([(⟨(⟨#[105]⟩ : ByteArray), 9, (⟨0, 0, (⟨#[]⟩ : ByteArray)⟩ : S26), false, false⟩ : S28)] : List (S28))) := ⟨_, rfl⟩
   replace H : (rabbetlaw23_PredForms.l1 k1 (([y165, y168, y171, (([(⟨(⟨#[105]⟩ : ByteArray), 1, (⟨9, 0, (⟨#[]⟩ : ByteArray)⟩ : S26), false, false⟩ : S28)] : List (S28))), (([(⟨(⟨#[120]⟩ : ByteArray), 7, (⟨0, 0, (⟨#[]⟩ : ByteArray)⟩ : S26), false, false⟩ : S28)] : List (S28))), (([(⟨(⟨#[105]⟩ : ByteArray), 1, (⟨4, 0, (⟨#[98]⟩ : ByteArray)⟩ : S26), false, false⟩ : S28)] : List (S28))), (([(⟨(⟨#[116]⟩ : ByteArray), 1, (⟨2, 1, (⟨#[]⟩ : ByteArray)⟩ : S26), false, false⟩ : S28)] : List (S28))), (([(⟨(⟨#[120]⟩ : ByteArray), 7, (⟨0, 0, (⟨#[]⟩ : ByteArray)⟩ : S26), false, false⟩ : S28), (⟨(⟨#[105]⟩ : ByteArray), 0, (⟨0, 0, (⟨#[]⟩ : ByteArray)⟩ : S26), false, false⟩ : S28)] : List (S28)))] : List (List (S28)))) (([1, 1, 1, 1, 3, 4, 4, 1] : List Int)) 0 y102 2 4 0 (⟨#[98]⟩ : ByteArray)) = some r := by first | (rw [hy171]; with_reducible exact H) | (have H2_ := (Option.bind_some _ _).symm.trans H; rw [hy171]; with_reducible exact H2_) | (have H2_ := (Option.bind_some _ _).symm.trans H; with_reducible exact H2_) | with_reducible exact H | (rw [hy171]; exact H) | exact H
   have Ny171 := Aside0.mk hy171
   clear hy171
   obtain ⟨y174, hy174⟩ : ∃ y_ : List (S28), y_ = (([(⟨(⟨#[105]⟩ : ByteArray), 1, (⟨9, 0, (⟨#[]⟩ : ByteArray)⟩ : S26), false, false⟩ : S28)] : List (S28))) := ⟨_, rfl⟩
   replace H : (rabbetlaw23_PredForms.l1 k1 (([y165, y168, y171, y174, (([(⟨(⟨#[120]⟩ : ByteArray), 7, (⟨0, 0, (⟨#[]⟩ : ByteArray)⟩ : S26), false, false⟩ : S28)] : List (S28))), (([(⟨(⟨#[105]⟩ : ByteArray), 1, (⟨4, 0, (⟨#[98]⟩ : ByteArray)⟩ : S26), false, false⟩ : S28)] : List (S28))), (([(⟨(⟨#[116]⟩ : ByteArray), 1, (⟨2, 1, (⟨#[]⟩ : ByteArray)⟩ : S26), false, false⟩ : S28)] : List (S28))), (([(⟨(⟨#[120]⟩ : ByteArray), 7, (⟨0, 0, (⟨#[]⟩ : ByteArray)⟩ : S26), false, false⟩ : S28), (⟨(⟨#[105]⟩ : ByteArray), 0, (⟨0, 0, (⟨#[]⟩ : ByteArray)⟩ : S26), false, false⟩ : S28)] : List (S28)))] : List (List (S28)))) (([1, 1, 1, 1, 3, 4, 4, 1] : List Int)) 0 y102 2 4 0 (⟨#[98]⟩ : ByteArray)) = some r := by first | (rw [hy174]; with_reducible exact H) | (have H2_ := (Option.bind_some _ _).symm.trans H; rw [hy174]; with_reducible exact H2_) | (have H2_ := (Option.bind_some _ _).symm.trans H; with_reducible exact H2_) | with_reducible exact H | (rw [hy174]; exact H) | exact H
   have Ny174 := Aside0.mk hy174
   clear hy174
   obtain ⟨y177, hy177⟩ : ∃ y_ : List (S28), y_ = (([(⟨(⟨#[120]⟩ : ByteArray), 7, (⟨0, 0, (⟨#[]⟩ : ByteArray)⟩ : S26), false, false⟩ : S28)] : List (S28))) := ⟨_, rfl⟩
   replace H : (rabbetlaw23_PredForms.l1 k1 (([y165, y168, y171, y174, y177, (([(⟨(⟨#[105]⟩ : ByteArray), 1, (⟨4, 0, (⟨#[98]⟩ : ByteArray)⟩ : S26), false, false⟩ : S28)] : List (S28))), (([(⟨(⟨#[116]⟩ : ByteArray), 1, (⟨2, 1, (⟨#[]⟩ : ByteArray)⟩ : S26), false, false⟩ : S28)] : List (S28))), (([(⟨(⟨#[120]⟩ : ByteArray), 7, (⟨0, 0, (⟨#[]⟩ : ByteArray)⟩ : S26), false, false⟩ : S28), (⟨(⟨#[105]⟩ : ByteArray), 0, (⟨0, 0, (⟨#[]⟩ : ByteArray)⟩ : S26), false, false⟩ : S28)] : List (S28)))] : List (List (S28)))) (([1, 1, 1, 1, 3, 4, 4, 1] : List Int)) 0 y102 2 4 0 (⟨#[98]⟩ : ByteArray)) = some r := by first | (rw [hy177]; with_reducible exact H) | (have H2_ := (Option.bind_some _ _).symm.trans H; rw [hy177]; with_reducible exact H2_) | (have H2_ := (Option.bind_some _ _).symm.trans H; with_reducible exact H2_) | with_reducible exact H | (rw [hy177]; exact H) | exact H
   have Ny177 := Aside0.mk hy177
   clear hy177
   obtain ⟨y180, hy180⟩ : ∃ y_ : List (S28), y_ = (([(⟨(⟨#[105]⟩ : ByteArray), 1, (⟨4, 0, (⟨#[98]⟩ : ByteArray)⟩ : S26), false, false⟩ : S28)] : List (S28))) := ⟨_, rfl⟩
   replace H : (rabbetlaw23_PredForms.l1 k1 (([y165, y168, y171, y174, y177, y180, (([(⟨(⟨#[116]⟩ : ByteArray), 1, (⟨2, 1, (⟨#[]⟩ : ByteArray)⟩ : S26), false, false⟩ : S28)] : List (S28))), (([(⟨(⟨#[120]⟩ : ByteArray), 7, (⟨0, 0, (⟨#[]⟩ : ByteArray)⟩ : S26), false, false⟩ : S28), (⟨(⟨#[105]⟩ : ByteArray), 0, (⟨0, 0, (⟨#[]⟩ : ByteArray)⟩ : S26), false, false⟩ : S28)] : List (S28)))] : List (List (S28)))) (([1, 1, 1, 1, 3, 4, 4, 1] : List Int)) 0 y102 2 4 0 (⟨#[98]⟩ : ByteArray)) = some r := by first | (rw [hy180]; with_reducible exact H) | (have H2_ := (Option.bind_some _ _).symm.trans H; rw [hy180]; with_reducible exact H2_) | (have H2_ := (Option.bind_some _ _).symm.trans H; with_reducible exact H2_) | with_reducible exact H | (rw [hy180]; exact H) | exact H
   have Ny180 := Aside0.mk hy180
   clear hy180
   obtain ⟨y183, hy183⟩ : ∃ y_ : List (S28), y_ = (([(⟨(⟨#[116]⟩ : ByteArray), 1, (⟨2, 1, (⟨#[]⟩ : ByteArray)⟩ : S26), false, false⟩ : S28)] : List (S28))) := ⟨_, rfl⟩
   replace H : (rabbetlaw23_PredForms.l1 k1 (([y165, y168, y171, y174, y177, y180, y183, (([(⟨(⟨#[120]⟩ : ByteArray), 7, (⟨0, 0, (⟨#[]⟩ : ByteArray)⟩ : S26), false, false⟩ : S28), (⟨(⟨#[105]⟩ : ByteArray), 0, (⟨0, 0, (⟨#[]⟩ : ByteArray)⟩ : S26), false, false⟩ : S28)] : List (S28)))] : List (List (S28)))) (([1, 1, 1, 1, 3, 4, 4, 1] : List Int)) 0 y102 2 4 0 (⟨#[98]⟩ : ByteArray)) = some r := by first | (rw [hy183]; with_reducible exact H) | (have H2_ := (Option.bind_some _ _).symm.trans H; rw [hy183]; with_reducible exact H2_) | (have H2_ := (Option.bind_some _ _).symm.trans H; with_reducible exact H2_) | with_reducible exact H | (rw [hy183]; exact H) | exact H
   have Ny183 := Aside0.mk hy183
   clear hy183
   obtain ⟨y186, hy186⟩ : ∃ y_ : List (S28), y_ = (([(⟨(⟨#[120]⟩ : ByteArray), 7, (⟨0, 0, (⟨#[]⟩ : ByteArray)⟩ : S26), false, false⟩ : S28), (⟨(⟨#[105]⟩ : ByteArray), 0, (⟨0, 0, (⟨#[]⟩ : ByteArray)⟩ : S26), false, false⟩ : S28)] : List (S28))) := ⟨_, rfl⟩
   replace H : (rabbetlaw23_PredForms.l1 k1 (([y165, y168, y171, y174, y177, y180, y183, y186] : List (List (S28)))) (([1, 1, 1, 1, 3, 4, 4, 1] : List Int)) 0 y102 2 4 0 (⟨#[98]⟩ : ByteArray)) = some r := by first | (rw [hy186]; with_reducible exact H) | (have H2_ := (Option.bind_some _ _).symm.trans H; rw [hy186]; with_reducible exact H2_) | (have H2_ := (Option.bind_some _ _).symm.trans H; with_reducible exact H2_) | with_reducible exact H | (rw [hy186]; exact H) | exact H
   have Ny186 := Aside0.mk hy186
   clear hy186
   obtain ⟨y189, hy189⟩ : ∃ y_ : List (List (S28)), y_ = (([y165, y168, y171, y174, y177, y180, y183, y186] : List (List (S28)))) := ⟨_, rfl⟩
   replace H : (rabbetlaw23_PredForms.l1 k1 y189 (([1, 1, 1, 1, 3, 4, 4, 1] : List Int)) 0 y102 2 4 0 (⟨#[98]⟩ : ByteArray)) = some r := by first | (rw [hy189]; with_reducible exact H) | (have H2_ := (Option.bind_some _ _).symm.trans H; rw [hy189]; with_reducible exact H2_) | (have H2_ := (Option.bind_some _ _).symm.trans H; with_reducible exact H2_) | with_reducible exact H | (rw [hy189]; exact H) | exact H
   have Ny189 := Aside0.mk hy189
   clear hy189
   obtain ⟨y192, hy192⟩ : ∃ y_ : List Int, y_ = (([1, 1, 1, 1, 3, 4, 4, 1] : List Int)) := ⟨_, rfl⟩
   replace H : (rabbetlaw23_PredForms.l1 k1 y189 y192 0 y102 2 4 0 (⟨#[98]⟩ : ByteArray)) = some r := by first | (rw [hy192]; with_reducible exact H) | (have H2_ := (Option.bind_some _ _).symm.trans H; rw [hy192]; with_reducible exact H2_) | (have H2_ := (Option.bind_some _ _).symm.trans H; with_reducible exact H2_) | with_reducible exact H | (rw [hy192]; exact H) | exact H
   have Ny192 := Aside0.mk hy192
   clear hy192
   have H' := Aside0.mk H
   clear H
   obtain ⟨Ao108, co108, eo108⟩ := Kd.N_slice HO_6.out
   subst eo108
   try go_wp2
   have n0_ := Aside0.mk (Kd.R_drew HO_5.out)
   have n1_ := Aside0.mk (Kd.N_drew HO_6.out)
   have n2_ := Aside0.mk (Kd.R_drew HO_7.out)
   have n3_ := Aside0.mk (Kd.R_drew HO_106000.out)
   have n4_ := Aside0.mk (blk_drew BK105.out)
   have n5_ := Aside0.mk (blk_drew BK106.out)
   have n6_ := Aside0.mk (blk_drew BK107.out)
   have n7_ := Aside0.mk (blk_drew BK108.out)
   have n8_ := Aside0.mk (below_drew1 HB.out)
   clear HO_5
   clear HO_6
   clear HO_7
   clear HO_106000
   clear BK105
   clear BK106
   clear BK107
   clear BK108
   clear HB
   have HO_5 := n0_
   have HO_6 := n1_
   have HO_7 := n2_
   have HO_106000 := n3_
   have BK105 := n4_
   have BK106 := n5_
   have BK107 := n6_
   have BK108 := n7_
   have HB := n8_
   clear n0_ n1_ n2_ n3_ n4_ n5_ n6_ n7_ n8_
   refine start_ (n := 21) (S := fun w' => True) (ds := []) #[false, false, false, false, false, false, false, false, false, false, false, false, false, false, false, false, false, false, false, false, false] (by kernel_rfl) rfl rfl trivial (fun hHeld => ?_); refine with_tabW rabbetlaw23_PredForms.tab14 rabbetlaw23_PredForms.bits14 (fun HT_ HW_ => ?_)
   generalize wr.drew = w109 at HO_5 HO_6 HO_7 HO_106000 BK105 BK106 BK107 BK108 HB hHeld ⊢
   refine inv_at [0, 1, 2, 3, 4, 5, 6, 7, 8, 9, 10, 11, 12, 13, 14, 15, 16, 17, 18, 19, 20] (fun a0_ b a w' => ∃ (v166 : Value) (v169 : Value) (v172 : Value) (v175 : Value) (v178 : Value) (v181 : Value) (v184 : Value) (v187 : Value) (v190 : Value) (m20_ : Value), a = putSel a0_ b [(0, 101, v166), (1, 102, .agg #[.string (⟨#[105]⟩ : ByteArray), .int .i64 0, .int .i64 0, .int .i64 0, .string (⟨#[]⟩ : ByteArray), .bool false, .bool false]), (2, 103, v169), (3, 104, .agg #[.string (⟨#[105]⟩ : ByteArray), .int .i64 9, .int .i64 0, .int .i64 0, .string (⟨#[]⟩ : ByteArray), .bool false, .bool false]), (4, 105, v172), (5, 106, .agg #[.int .i64 9, .int .i64 0, .string (⟨#[]⟩ : ByteArray)]), (6, 107, .agg #[.string (⟨#[105]⟩ : ByteArray), .int .i64 1, .int .i64 9, .int .i64 0, .string (⟨#[]⟩ : ByteArray), .bool false, .bool false]), (7, 108, v175), (8, 109, .agg #[.string (⟨#[120]⟩ : ByteArray), .int .i64 7, .int .i64 0, .int .i64 0, .string (⟨#[]⟩ : ByteArray), .bool false, .bool false]), (9, 110, v178), (10, 111, .agg #[.int .i64 4, .int .i64 0, .string (⟨#[98]⟩ : ByteArray)]), (11, 112, .agg #[.string (⟨#[105]⟩ : ByteArray), .int .i64 1, .int .i64 4, .int .i64 0, .string (⟨#[98]⟩ : ByteArray), .bool false, .bool false]), (12, 113, v181), (13, 114, .agg #[.int .i64 2, .int .i64 1, .string (⟨#[]⟩ : ByteArray)]), (14, 115, .agg #[.string (⟨#[116]⟩ : ByteArray), .int .i64 1, .int .i64 2, .int .i64 1, .string (⟨#[]⟩ : ByteArray), .bool false, .bool false]), (15, 116, v184), (16, 117, .agg #[.string (⟨#[120]⟩ : ByteArray), .int .i64 7, .int .i64 0, .int .i64 0, .string (⟨#[]⟩ : ByteArray), .bool false, .bool false]), (17, 118, .agg #[.string (⟨#[105]⟩ : ByteArray), .int .i64 0, .int .i64 0, .int .i64 0, .string (⟨#[]⟩ : ByteArray), .bool false, .bool false]), (18, 119, v187), (19, 120, v190), (20, 9, m20_)] ∧ (Kd.R k64 64 w' w.heap.size (fun _ => True) (.slice Ao6 y102.length co6) y102) ∧ (Kd.R k26 26 w' w.heap.size (fun k_ => k_ ≠ gb106 ∧ k_ ≠ gb107 ∧ k_ ≠ gb108) v110 y109) ∧ (Kd.N (Kd.slice 28 k28) 23 w' w.heap.size (fun k_ => some k_ ≠ (.slice Ao6 y102.length co6 : Value).ownBlock ∧ some k_ ≠ (v110 : Value).ownBlock ∧ some k_ ≠ (v158 : Value).ownBlock ∧ k_ ≠ gb105 ∧ k_ ≠ gb106 ∧ k_ ≠ gb107 ∧ k_ ≠ gb108) (.slice Ao108 y154.length co108) y154) ∧ (Kd.R (Kd.int .i64) 3 w' w.heap.size (fun _ => True) v158 y157) ∧ (w'.heap[gb105]? = some (.cells #[.slice Ao6 y102.length co6, .int .i64 2] 33 (0, 0))) ∧ (w'.heap[gb106]? = some (.cells #[.int .i64 2, .int .i64 1, .string (⟨#[]⟩ : ByteArray)] 26 (0, 0))) ∧ (w'.heap[gb107]? = some (.cells #[.int .i64 1, .int .i64 2, .string (⟨#[]⟩ : ByteArray)] 26 (0, 0))) ∧ (w'.heap[gb108]? = some (.cells #[.int .i64 4, .int .i64 0, .string (⟨#[98]⟩ : ByteArray)] 26 (0, 0))) ∧ (Below w.heap.size w w') ∧ (b 0 = true → b 19 = false → Kd.R k28 28 w' w.heap.size (fun _ => True) v166 y165) ∧ (b 2 = true → b 19 = false → Kd.R k28 28 w' w.heap.size (fun _ => True) v169 y168) ∧ (b 4 = true → b 19 = false → Kd.R k28 28 w' w.heap.size (fun _ => True) v172 y171) ∧ (b 7 = true → b 19 = false → Kd.R k28 28 w' w.heap.size (fun _ => True) v175 y174) ∧ (b 9 = true → b 19 = false → Kd.R k28 28 w' w.heap.size (fun _ => True) v178 y177) ∧ (b 12 = true → b 19 = false → Kd.R k28 28 w' w.heap.size (fun _ => True) v181 y180) ∧ (b 15 = true → b 19 = false → Kd.R k28 28 w' w.heap.size (fun _ => True) v184 y183) ∧ (b 18 = true → b 19 = false → Kd.R k28 28 w' w.heap.size (fun _ => True) v187 y186) ∧ (b 19 = true → Kd.N (Kd.slice 28 k28) 23 w' w.heap.size (fun k_ => some k_ ≠ (.slice Ao6 y102.length co6 : Value).ownBlock ∧ some k_ ≠ (v110 : Value).ownBlock ∧ some k_ ≠ (.slice Ao108 y154.length co108 : Value).ownBlock ∧ some k_ ≠ (v158 : Value).ownBlock ∧ k_ ≠ gb105 ∧ k_ ≠ gb106 ∧ k_ ≠ gb107 ∧ k_ ≠ gb108) v190 y189) ∧ (b 20 = true → (m20_ : Value) = v190)) HT_.out HW_.out (by kernel_rfl) (by kernel_rfl) ?_ ?_ ?_
   ·exact ⟨.bool false, .bool false, .bool false, .bool false, .bool false, .bool false, .bool false, .bool false, .bool false, .bool false, by simp only [putSel, Bool.false_eq_true, if_false], HO_106000.out, HO_5.out, Kd.N_mono HO_6.out (fun _ hk => ⟨hk.2.2.1, hk.1, hk.2.1, hk.2.2.2⟩), HO_7.out, BK105.out, BK106.out, BK107.out, BK108.out, HB.out, fun h_ => absurd h_ (by decide), fun h_ => absurd h_ (by decide), fun h_ => absurd h_ (by decide), fun h_ => absurd h_ (by decide), fun h_ => absurd h_ (by decide), fun h_ => absurd h_ (by decide), fun h_ => absurd h_ (by decide), fun h_ => absurd h_ (by decide), fun h_ => absurd h_ (by decide), fun h_ => absurd h_ (by decide)⟩
   ·skip
    clear BK105 BK106 BK107 BK108 HB HO_106000 HO_5 HO_6 HO_7
    refine steps_cons ?_ ?_
    ·rintro b a w' ⟨v166, v169, v172, v175, v178, v181, v184, v187, v190, m20_, ha, Q_HO_106000, Q_HO_5, Q_HO_6, Q_HO_7, Q_BK105, Q_BK106, Q_BK107, Q_BK108, Q_HB, Q_HO167, Q_HO170, Q_HO173, Q_HO176, Q_HO179, Q_HO182, Q_HO185, Q_HO188, Q_HO191, Q_X20_⟩ hb_ hon hoff
     rename_i xie0_ xie1_ xie2_ xie3_; revert k r w hu64 hu33 hu26 hu28 A1 y102 Ny102 y109 Ny109 y112 Ny112 y115 Ny115 y118 Ny118 y121 Ny121 y124 Ny124 y127 Ny127 y130 Ny130 y133 Ny133 y136 Ny136 y139 Ny139 y142 Ny142 y145 Ny145 y148 Ny148 y151 Ny151 y154 Ny154 y157 Ny157 xi0_ w3 w4 Ao6 co6 gb105 w7 GW105 GE105 gb106 w9 GW106 GE106 NB105_106 NB106_105 gb107 w10 GW107 GE107 NB105_107 NB107_105 NB106_107 NB107_106 hnb11 hnc11 hnb12 hnc12 hnb14 hnc14 gb108 w16 GW108 GE108 NB105_108 NB108_105 NB106_108 NB108_106 NB107_108 NB108_107 hnb17 hnc17 hnb18 hnc18 hnb19 hnc19 v110 w22 w25 w28 w31 w34 w36 w38 w40 w43 w45 w49 w53 w57 w62 w65 Ao67 co67 Ao68 co68 Ao69 co69 Ao70 co70 Ao71 co71 Ao72 co72 Ao73 co73 Ao74 co74 Ao75 co75 Ao76 co76 Ao77 co77 Ao78 co78 Ao79 co79 Ao80 co80 w81 v158 w83 HO104 HO111 HO159 xi1_ xi2_ xi3_ xi4_ xi5_ xi6_ wr u0 u74 u75 u76 u77 u78 u79 u80 u81 u82 u83 u84 u85 u86 u87 u88 u89 u90 u91 u92 u93 u94 u95 u96 u97 u98 u99 u100 xi8_ xi9_ x8_1 k1 xi11_ HK1 c85b0 c107b0 c107b1 y165 Ny165 y168 Ny168 y171 Ny171 y174 Ny174 y177 Ny177 y180 Ny180 y183 Ny183 y186 Ny186 y189 Ny189 y192 Ny192 H' Ao108 co108 HO156 xi10_ xie0_ xie1_ xie2_ xie3_ hHeld HT_ HW_ w109 b a w' v166 v169 v172 v175 v178 v181 v184 v187 v190 m20_ ha Q_HO_106000 Q_HO_5 Q_HO_6 Q_HO_7 Q_BK105 Q_BK106 Q_BK107 Q_BK108 Q_HB Q_HO167 Q_HO170 Q_HO173 Q_HO176 Q_HO179 Q_HO182 Q_HO185 Q_HO188 Q_HO191 Q_X20_ hb_ hon hoff; exact hole0_
    refine steps_cons ?_ ?_
    ·rintro b a w' ⟨v166, v169, v172, v175, v178, v181, v184, v187, v190, m20_, ha, Q_HO_106000, Q_HO_5, Q_HO_6, Q_HO_7, Q_BK105, Q_BK106, Q_BK107, Q_BK108, Q_HB, Q_HO167, Q_HO170, Q_HO173, Q_HO176, Q_HO179, Q_HO182, Q_HO185, Q_HO188, Q_HO191, Q_X20_⟩ hb_ hon hoff
     refine ⟨_, rfl, fun K hK => ?_⟩
     replace ha := Aside0.mk ha
     have HO_106000 := Aside0.mk Q_HO_106000
     have HO_5 := Aside0.mk Q_HO_5
     have HO_6 := Aside0.mk Q_HO_6
     have HO_7 := Aside0.mk Q_HO_7
     have BK105 := Aside0.mk Q_BK105
     have BK106 := Aside0.mk Q_BK106
     have BK107 := Aside0.mk Q_BK107
     have BK108 := Aside0.mk Q_BK108
     have HB := Aside0.mk Q_HB
     refine value_ (w1 := w') (v := .agg #[.string (⟨#[105]⟩ : ByteArray), .int .i64 0, .int .i64 0, .int .i64 0, .string (⟨#[]⟩ : ByteArray), .bool false, .bool false]) (by rfl) rfl ?_ ?_
     ·go_simp
      (try simp only [i64_w])
      try rfl
     refine hK.out _ _ ⟨v166, v169, v172, v175, v178, v181, v184, v187, v190, m20_, (by rw [ha.out]; exact putSel_upk 1 hb_ rfl rfl rfl), Q_HO_106000, Q_HO_5, Q_HO_6, Q_HO_7, Q_BK105, Q_BK106, Q_BK107, Q_BK108, Q_HB, Q_HO167, fun h0_ _ => absurd ((hoff 2 (by kernel_rfl)).symm.trans h0_) (by decide), Q_HO173, Q_HO176, Q_HO179, Q_HO182, Q_HO185, Q_HO188, fun h0_ => absurd ((hoff 19 (by kernel_rfl)).symm.trans h0_) (by decide), fun h0_ => absurd ((hoff 20 (by kernel_rfl)).symm.trans h0_) (by decide)⟩
    refine steps_cons ?_ ?_
    ·rintro b a w' ⟨v166, v169, v172, v175, v178, v181, v184, v187, v190, m20_, ha, Q_HO_106000, Q_HO_5, Q_HO_6, Q_HO_7, Q_BK105, Q_BK106, Q_BK107, Q_BK108, Q_HB, Q_HO167, Q_HO170, Q_HO173, Q_HO176, Q_HO179, Q_HO182, Q_HO185, Q_HO188, Q_HO191, Q_X20_⟩ hb_ hon hoff
     rename_i xie0_ xie1_ xie2_ xie3_; revert k r w hu64 hu33 hu26 hu28 A1 y102 Ny102 y109 Ny109 y112 Ny112 y115 Ny115 y118 Ny118 y121 Ny121 y124 Ny124 y127 Ny127 y130 Ny130 y133 Ny133 y136 Ny136 y139 Ny139 y142 Ny142 y145 Ny145 y148 Ny148 y151 Ny151 y154 Ny154 y157 Ny157 xi0_ w3 w4 Ao6 co6 gb105 w7 GW105 GE105 gb106 w9 GW106 GE106 NB105_106 NB106_105 gb107 w10 GW107 GE107 NB105_107 NB107_105 NB106_107 NB107_106 hnb11 hnc11 hnb12 hnc12 hnb14 hnc14 gb108 w16 GW108 GE108 NB105_108 NB108_105 NB106_108 NB108_106 NB107_108 NB108_107 hnb17 hnc17 hnb18 hnc18 hnb19 hnc19 v110 w22 w25 w28 w31 w34 w36 w38 w40 w43 w45 w49 w53 w57 w62 w65 Ao67 co67 Ao68 co68 Ao69 co69 Ao70 co70 Ao71 co71 Ao72 co72 Ao73 co73 Ao74 co74 Ao75 co75 Ao76 co76 Ao77 co77 Ao78 co78 Ao79 co79 Ao80 co80 w81 v158 w83 HO104 HO111 HO159 xi1_ xi2_ xi3_ xi4_ xi5_ xi6_ wr u0 u74 u75 u76 u77 u78 u79 u80 u81 u82 u83 u84 u85 u86 u87 u88 u89 u90 u91 u92 u93 u94 u95 u96 u97 u98 u99 u100 xi8_ xi9_ x8_1 k1 xi11_ HK1 c85b0 c107b0 c107b1 y165 Ny165 y168 Ny168 y171 Ny171 y174 Ny174 y177 Ny177 y180 Ny180 y183 Ny183 y186 Ny186 y189 Ny189 y192 Ny192 H' Ao108 co108 HO156 xi10_ xie0_ xie1_ xie2_ xie3_ hHeld HT_ HW_ w109 b a w' v166 v169 v172 v175 v178 v181 v184 v187 v190 m20_ ha Q_HO_106000 Q_HO_5 Q_HO_6 Q_HO_7 Q_BK105 Q_BK106 Q_BK107 Q_BK108 Q_HB Q_HO167 Q_HO170 Q_HO173 Q_HO176 Q_HO179 Q_HO182 Q_HO185 Q_HO188 Q_HO191 Q_X20_ hb_ hon hoff; exact hole1_
    refine steps_cons ?_ ?_
    ·rintro b a w' ⟨v166, v169, v172, v175, v178, v181, v184, v187, v190, m20_, ha, Q_HO_106000, Q_HO_5, Q_HO_6, Q_HO_7, Q_BK105, Q_BK106, Q_BK107, Q_BK108, Q_HB, Q_HO167, Q_HO170, Q_HO173, Q_HO176, Q_HO179, Q_HO182, Q_HO185, Q_HO188, Q_HO191, Q_X20_⟩ hb_ hon hoff
     refine ⟨_, rfl, fun K hK => ?_⟩
     replace ha := Aside0.mk ha
     have HO_106000 := Aside0.mk Q_HO_106000
     have HO_5 := Aside0.mk Q_HO_5
     have HO_6 := Aside0.mk Q_HO_6
     have HO_7 := Aside0.mk Q_HO_7
     have BK105 := Aside0.mk Q_BK105
     have BK106 := Aside0.mk Q_BK106
     have BK107 := Aside0.mk Q_BK107
     have BK108 := Aside0.mk Q_BK108
     have HB := Aside0.mk Q_HB
     refine value_ (w1 := w') (v := .agg #[.string (⟨#[105]⟩ : ByteArray), .int .i64 9, .int .i64 0, .int .i64 0, .string (⟨#[]⟩ : ByteArray), .bool false, .bool false]) (by rfl) rfl ?_ ?_
     ·go_simp
      (try simp only [i64_w])
      try rfl
     refine hK.out _ _ ⟨v166, v169, v172, v175, v178, v181, v184, v187, v190, m20_, (by rw [ha.out]; exact putSel_upk 3 hb_ rfl rfl rfl), Q_HO_106000, Q_HO_5, Q_HO_6, Q_HO_7, Q_BK105, Q_BK106, Q_BK107, Q_BK108, Q_HB, Q_HO167, Q_HO170, fun h0_ _ => absurd ((hoff 4 (by kernel_rfl)).symm.trans h0_) (by decide), Q_HO176, Q_HO179, Q_HO182, Q_HO185, Q_HO188, fun h0_ => absurd ((hoff 19 (by kernel_rfl)).symm.trans h0_) (by decide), fun h0_ => absurd ((hoff 20 (by kernel_rfl)).symm.trans h0_) (by decide)⟩
    refine steps_cons ?_ ?_
    ·rintro b a w' ⟨v166, v169, v172, v175, v178, v181, v184, v187, v190, m20_, ha, Q_HO_106000, Q_HO_5, Q_HO_6, Q_HO_7, Q_BK105, Q_BK106, Q_BK107, Q_BK108, Q_HB, Q_HO167, Q_HO170, Q_HO173, Q_HO176, Q_HO179, Q_HO182, Q_HO185, Q_HO188, Q_HO191, Q_X20_⟩ hb_ hon hoff
     rename_i xie0_ xie1_ xie2_ xie3_; revert k r w hu64 hu33 hu26 hu28 A1 y102 Ny102 y109 Ny109 y112 Ny112 y115 Ny115 y118 Ny118 y121 Ny121 y124 Ny124 y127 Ny127 y130 Ny130 y133 Ny133 y136 Ny136 y139 Ny139 y142 Ny142 y145 Ny145 y148 Ny148 y151 Ny151 y154 Ny154 y157 Ny157 xi0_ w3 w4 Ao6 co6 gb105 w7 GW105 GE105 gb106 w9 GW106 GE106 NB105_106 NB106_105 gb107 w10 GW107 GE107 NB105_107 NB107_105 NB106_107 NB107_106 hnb11 hnc11 hnb12 hnc12 hnb14 hnc14 gb108 w16 GW108 GE108 NB105_108 NB108_105 NB106_108 NB108_106 NB107_108 NB108_107 hnb17 hnc17 hnb18 hnc18 hnb19 hnc19 v110 w22 w25 w28 w31 w34 w36 w38 w40 w43 w45 w49 w53 w57 w62 w65 Ao67 co67 Ao68 co68 Ao69 co69 Ao70 co70 Ao71 co71 Ao72 co72 Ao73 co73 Ao74 co74 Ao75 co75 Ao76 co76 Ao77 co77 Ao78 co78 Ao79 co79 Ao80 co80 w81 v158 w83 HO104 HO111 HO159 xi1_ xi2_ xi3_ xi4_ xi5_ xi6_ wr u0 u74 u75 u76 u77 u78 u79 u80 u81 u82 u83 u84 u85 u86 u87 u88 u89 u90 u91 u92 u93 u94 u95 u96 u97 u98 u99 u100 xi8_ xi9_ x8_1 k1 xi11_ HK1 c85b0 c107b0 c107b1 y165 Ny165 y168 Ny168 y171 Ny171 y174 Ny174 y177 Ny177 y180 Ny180 y183 Ny183 y186 Ny186 y189 Ny189 y192 Ny192 H' Ao108 co108 HO156 xi10_ xie0_ xie1_ xie2_ xie3_ hHeld HT_ HW_ w109 b a w' v166 v169 v172 v175 v178 v181 v184 v187 v190 m20_ ha Q_HO_106000 Q_HO_5 Q_HO_6 Q_HO_7 Q_BK105 Q_BK106 Q_BK107 Q_BK108 Q_HB Q_HO167 Q_HO170 Q_HO173 Q_HO176 Q_HO179 Q_HO182 Q_HO185 Q_HO188 Q_HO191 Q_X20_ hb_ hon hoff; exact hole2_
    refine steps_cons ?_ ?_
    ·rintro b a w' ⟨v166, v169, v172, v175, v178, v181, v184, v187, v190, m20_, ha, Q_HO_106000, Q_HO_5, Q_HO_6, Q_HO_7, Q_BK105, Q_BK106, Q_BK107, Q_BK108, Q_HB, Q_HO167, Q_HO170, Q_HO173, Q_HO176, Q_HO179, Q_HO182, Q_HO185, Q_HO188, Q_HO191, Q_X20_⟩ hb_ hon hoff
     refine ⟨_, rfl, fun K hK => ?_⟩
     replace ha := Aside0.mk ha
     have HO_106000 := Aside0.mk Q_HO_106000
     have HO_5 := Aside0.mk Q_HO_5
     have HO_6 := Aside0.mk Q_HO_6
     have HO_7 := Aside0.mk Q_HO_7
     have BK105 := Aside0.mk Q_BK105
     have BK106 := Aside0.mk Q_BK106
     have BK107 := Aside0.mk Q_BK107
     have BK108 := Aside0.mk Q_BK108
     have HB := Aside0.mk Q_HB
     refine value_ (w1 := w') (v := .agg #[.int .i64 9, .int .i64 0, .string (⟨#[]⟩ : ByteArray)]) (by rfl) rfl ?_ ?_
     ·go_simp
      (try simp only [i64_w])
      try rfl
     refine hK.out _ _ ⟨v166, v169, v172, v175, v178, v181, v184, v187, v190, m20_, (by rw [ha.out]; exact putSel_upk 5 hb_ rfl rfl rfl), Q_HO_106000, Q_HO_5, Q_HO_6, Q_HO_7, Q_BK105, Q_BK106, Q_BK107, Q_BK108, Q_HB, Q_HO167, Q_HO170, Q_HO173, fun h0_ _ => absurd ((hoff 7 (by kernel_rfl)).symm.trans h0_) (by decide), Q_HO179, Q_HO182, Q_HO185, Q_HO188, fun h0_ => absurd ((hoff 19 (by kernel_rfl)).symm.trans h0_) (by decide), fun h0_ => absurd ((hoff 20 (by kernel_rfl)).symm.trans h0_) (by decide)⟩
    refine steps_cons ?_ ?_
    ·rintro b a w' ⟨v166, v169, v172, v175, v178, v181, v184, v187, v190, m20_, ha, Q_HO_106000, Q_HO_5, Q_HO_6, Q_HO_7, Q_BK105, Q_BK106, Q_BK107, Q_BK108, Q_HB, Q_HO167, Q_HO170, Q_HO173, Q_HO176, Q_HO179, Q_HO182, Q_HO185, Q_HO188, Q_HO191, Q_X20_⟩ hb_ hon hoff
     refine ⟨_, rfl, fun K hK => ?_⟩
     have e106 : a.tmps[106]? = some (.agg #[.int .i64 9, .int .i64 0, .string (⟨#[]⟩ : ByteArray)]) := by rw [ha]; exact putSel_on (e := (5, 106, .agg #[.int .i64 9, .int .i64 0, .string (⟨#[]⟩ : ByteArray)])) 5 rfl rfl (hon 5 (by kernel_rfl)) rfl
     replace ha := Aside0.mk ha
     have HO_106000 := Aside0.mk Q_HO_106000
     have HO_5 := Aside0.mk Q_HO_5
     have HO_6 := Aside0.mk Q_HO_6
     have HO_7 := Aside0.mk Q_HO_7
     have BK105 := Aside0.mk Q_BK105
     have BK106 := Aside0.mk Q_BK106
     have BK107 := Aside0.mk Q_BK107
     have BK108 := Aside0.mk Q_BK108
     have HB := Aside0.mk Q_HB
     refine value_ (w1 := w') (v := .agg #[.string (⟨#[105]⟩ : ByteArray), .int .i64 1, .int .i64 9, .int .i64 0, .string (⟨#[]⟩ : ByteArray), .bool false, .bool false]) (by rfl) rfl ?_ ?_
     ·go_simp
      (try simp only [i64_w])
      try rfl
     refine hK.out _ _ ⟨v166, v169, v172, v175, v178, v181, v184, v187, v190, m20_, (by rw [ha.out]; exact putSel_upk 6 hb_ rfl rfl rfl), Q_HO_106000, Q_HO_5, Q_HO_6, Q_HO_7, Q_BK105, Q_BK106, Q_BK107, Q_BK108, Q_HB, Q_HO167, Q_HO170, Q_HO173, fun h0_ _ => absurd ((hoff 7 (by kernel_rfl)).symm.trans h0_) (by decide), Q_HO179, Q_HO182, Q_HO185, Q_HO188, fun h0_ => absurd ((hoff 19 (by kernel_rfl)).symm.trans h0_) (by decide), fun h0_ => absurd ((hoff 20 (by kernel_rfl)).symm.trans h0_) (by decide)⟩
    refine steps_cons ?_ ?_
    ·rintro b a w' ⟨v166, v169, v172, v175, v178, v181, v184, v187, v190, m20_, ha, Q_HO_106000, Q_HO_5, Q_HO_6, Q_HO_7, Q_BK105, Q_BK106, Q_BK107, Q_BK108, Q_HB, Q_HO167, Q_HO170, Q_HO173, Q_HO176, Q_HO179, Q_HO182, Q_HO185, Q_HO188, Q_HO191, Q_X20_⟩ hb_ hon hoff
     rename_i xie0_ xie1_ xie2_ xie3_; revert k r w hu64 hu33 hu26 hu28 A1 y102 Ny102 y109 Ny109 y112 Ny112 y115 Ny115 y118 Ny118 y121 Ny121 y124 Ny124 y127 Ny127 y130 Ny130 y133 Ny133 y136 Ny136 y139 Ny139 y142 Ny142 y145 Ny145 y148 Ny148 y151 Ny151 y154 Ny154 y157 Ny157 xi0_ w3 w4 Ao6 co6 gb105 w7 GW105 GE105 gb106 w9 GW106 GE106 NB105_106 NB106_105 gb107 w10 GW107 GE107 NB105_107 NB107_105 NB106_107 NB107_106 hnb11 hnc11 hnb12 hnc12 hnb14 hnc14 gb108 w16 GW108 GE108 NB105_108 NB108_105 NB106_108 NB108_106 NB107_108 NB108_107 hnb17 hnc17 hnb18 hnc18 hnb19 hnc19 v110 w22 w25 w28 w31 w34 w36 w38 w40 w43 w45 w49 w53 w57 w62 w65 Ao67 co67 Ao68 co68 Ao69 co69 Ao70 co70 Ao71 co71 Ao72 co72 Ao73 co73 Ao74 co74 Ao75 co75 Ao76 co76 Ao77 co77 Ao78 co78 Ao79 co79 Ao80 co80 w81 v158 w83 HO104 HO111 HO159 xi1_ xi2_ xi3_ xi4_ xi5_ xi6_ wr u0 u74 u75 u76 u77 u78 u79 u80 u81 u82 u83 u84 u85 u86 u87 u88 u89 u90 u91 u92 u93 u94 u95 u96 u97 u98 u99 u100 xi8_ xi9_ x8_1 k1 xi11_ HK1 c85b0 c107b0 c107b1 y165 Ny165 y168 Ny168 y171 Ny171 y174 Ny174 y177 Ny177 y180 Ny180 y183 Ny183 y186 Ny186 y189 Ny189 y192 Ny192 H' Ao108 co108 HO156 xi10_ xie0_ xie1_ xie2_ xie3_ hHeld HT_ HW_ w109 b a w' v166 v169 v172 v175 v178 v181 v184 v187 v190 m20_ ha Q_HO_106000 Q_HO_5 Q_HO_6 Q_HO_7 Q_BK105 Q_BK106 Q_BK107 Q_BK108 Q_HB Q_HO167 Q_HO170 Q_HO173 Q_HO176 Q_HO179 Q_HO182 Q_HO185 Q_HO188 Q_HO191 Q_X20_ hb_ hon hoff; exact hole3_
    refine steps_cons ?_ ?_
    ·rintro b a w' ⟨v166, v169, v172, v175, v178, v181, v184, v187, v190, m20_, ha, Q_HO_106000, Q_HO_5, Q_HO_6, Q_HO_7, Q_BK105, Q_BK106, Q_BK107, Q_BK108, Q_HB, Q_HO167, Q_HO170, Q_HO173, Q_HO176, Q_HO179, Q_HO182, Q_HO185, Q_HO188, Q_HO191, Q_X20_⟩ hb_ hon hoff
     refine ⟨_, rfl, fun K hK => ?_⟩
     replace ha := Aside0.mk ha
     have HO_106000 := Aside0.mk Q_HO_106000
     have HO_5 := Aside0.mk Q_HO_5
     have HO_6 := Aside0.mk Q_HO_6
     have HO_7 := Aside0.mk Q_HO_7
     have BK105 := Aside0.mk Q_BK105
     have BK106 := Aside0.mk Q_BK106
     have BK107 := Aside0.mk Q_BK107
     have BK108 := Aside0.mk Q_BK108
     have HB := Aside0.mk Q_HB
     refine value_ (w1 := w') (v := .agg #[.string (⟨#[120]⟩ : ByteArray), .int .i64 7, .int .i64 0, .int .i64 0, .string (⟨#[]⟩ : ByteArray), .bool false, .bool false]) (by rfl) rfl ?_ ?_
     ·go_simp
      (try simp only [i64_w])
      try rfl
     refine hK.out _ _ ⟨v166, v169, v172, v175, v178, v181, v184, v187, v190, m20_, (by rw [ha.out]; exact putSel_upk 8 hb_ rfl rfl rfl), Q_HO_106000, Q_HO_5, Q_HO_6, Q_HO_7, Q_BK105, Q_BK106, Q_BK107, Q_BK108, Q_HB, Q_HO167, Q_HO170, Q_HO173, Q_HO176, fun h0_ _ => absurd ((hoff 9 (by kernel_rfl)).symm.trans h0_) (by decide), Q_HO182, Q_HO185, Q_HO188, fun h0_ => absurd ((hoff 19 (by kernel_rfl)).symm.trans h0_) (by decide), fun h0_ => absurd ((hoff 20 (by kernel_rfl)).symm.trans h0_) (by decide)⟩
    refine steps_cons ?_ ?_
    ·rintro b a w' ⟨v166, v169, v172, v175, v178, v181, v184, v187, v190, m20_, ha, Q_HO_106000, Q_HO_5, Q_HO_6, Q_HO_7, Q_BK105, Q_BK106, Q_BK107, Q_BK108, Q_HB, Q_HO167, Q_HO170, Q_HO173, Q_HO176, Q_HO179, Q_HO182, Q_HO185, Q_HO188, Q_HO191, Q_X20_⟩ hb_ hon hoff
     rename_i xie0_ xie1_ xie2_ xie3_; revert k r w hu64 hu33 hu26 hu28 A1 y102 Ny102 y109 Ny109 y112 Ny112 y115 Ny115 y118 Ny118 y121 Ny121 y124 Ny124 y127 Ny127 y130 Ny130 y133 Ny133 y136 Ny136 y139 Ny139 y142 Ny142 y145 Ny145 y148 Ny148 y151 Ny151 y154 Ny154 y157 Ny157 xi0_ w3 w4 Ao6 co6 gb105 w7 GW105 GE105 gb106 w9 GW106 GE106 NB105_106 NB106_105 gb107 w10 GW107 GE107 NB105_107 NB107_105 NB106_107 NB107_106 hnb11 hnc11 hnb12 hnc12 hnb14 hnc14 gb108 w16 GW108 GE108 NB105_108 NB108_105 NB106_108 NB108_106 NB107_108 NB108_107 hnb17 hnc17 hnb18 hnc18 hnb19 hnc19 v110 w22 w25 w28 w31 w34 w36 w38 w40 w43 w45 w49 w53 w57 w62 w65 Ao67 co67 Ao68 co68 Ao69 co69 Ao70 co70 Ao71 co71 Ao72 co72 Ao73 co73 Ao74 co74 Ao75 co75 Ao76 co76 Ao77 co77 Ao78 co78 Ao79 co79 Ao80 co80 w81 v158 w83 HO104 HO111 HO159 xi1_ xi2_ xi3_ xi4_ xi5_ xi6_ wr u0 u74 u75 u76 u77 u78 u79 u80 u81 u82 u83 u84 u85 u86 u87 u88 u89 u90 u91 u92 u93 u94 u95 u96 u97 u98 u99 u100 xi8_ xi9_ x8_1 k1 xi11_ HK1 c85b0 c107b0 c107b1 y165 Ny165 y168 Ny168 y171 Ny171 y174 Ny174 y177 Ny177 y180 Ny180 y183 Ny183 y186 Ny186 y189 Ny189 y192 Ny192 H' Ao108 co108 HO156 xi10_ xie0_ xie1_ xie2_ xie3_ hHeld HT_ HW_ w109 b a w' v166 v169 v172 v175 v178 v181 v184 v187 v190 m20_ ha Q_HO_106000 Q_HO_5 Q_HO_6 Q_HO_7 Q_BK105 Q_BK106 Q_BK107 Q_BK108 Q_HB Q_HO167 Q_HO170 Q_HO173 Q_HO176 Q_HO179 Q_HO182 Q_HO185 Q_HO188 Q_HO191 Q_X20_ hb_ hon hoff; exact hole4_
    refine steps_cons ?_ ?_
    ·rintro b a w' ⟨v166, v169, v172, v175, v178, v181, v184, v187, v190, m20_, ha, Q_HO_106000, Q_HO_5, Q_HO_6, Q_HO_7, Q_BK105, Q_BK106, Q_BK107, Q_BK108, Q_HB, Q_HO167, Q_HO170, Q_HO173, Q_HO176, Q_HO179, Q_HO182, Q_HO185, Q_HO188, Q_HO191, Q_X20_⟩ hb_ hon hoff
     refine ⟨_, rfl, fun K hK => ?_⟩
     have e4 : a.tmps[4]? = some (.pointer (some ⟨gb108, 0, none⟩)) := by rw [ha]; exact (putSel_off rfl).trans rfl
     replace ha := Aside0.mk ha
     have HO_106000 := Aside0.mk Q_HO_106000
     have HO_5 := Aside0.mk Q_HO_5
     have HO_6 := Aside0.mk Q_HO_6
     have HO_7 := Aside0.mk Q_HO_7
     have BK105 := Aside0.mk Q_BK105
     have BK106 := Aside0.mk Q_BK106
     have BK107 := Aside0.mk Q_BK107
     have BK108 := Aside0.mk Q_BK108
     have HB := Aside0.mk Q_HB
     have hc0_ : w'.cell? ⟨gb108, 0, none⟩ = some (.int .i64 4) := (blk_cell BK108.out 0).trans rfl
     have hc1_ : w'.cell? ⟨gb108, 1, none⟩ = some (.int .i64 0) := (blk_cell BK108.out 1).trans rfl
     have hc2_ : w'.cell? ⟨gb108, 2, none⟩ = some (.string (⟨#[98]⟩ : ByteArray)) := (blk_cell BK108.out 2).trans rfl
     refine value_ (w1 := w') (v := .agg #[.int .i64 4, .int .i64 0, .string (⟨#[98]⟩ : ByteArray)]) (by rfl) rfl ?_ ?_
     ·go_simp
      (try simp only [i64_w])
      try rfl
     refine hK.out _ _ ⟨v166, v169, v172, v175, v178, v181, v184, v187, v190, m20_, (by rw [ha.out]; exact putSel_upk 10 hb_ rfl rfl rfl), Q_HO_106000, Q_HO_5, Q_HO_6, Q_HO_7, Q_BK105, Q_BK106, Q_BK107, Q_BK108, Q_HB, Q_HO167, Q_HO170, Q_HO173, Q_HO176, Q_HO179, fun h0_ _ => absurd ((hoff 12 (by kernel_rfl)).symm.trans h0_) (by decide), Q_HO185, Q_HO188, fun h0_ => absurd ((hoff 19 (by kernel_rfl)).symm.trans h0_) (by decide), fun h0_ => absurd ((hoff 20 (by kernel_rfl)).symm.trans h0_) (by decide)⟩
    refine steps_cons ?_ ?_
    ·rintro b a w' ⟨v166, v169, v172, v175, v178, v181, v184, v187, v190, m20_, ha, Q_HO_106000, Q_HO_5, Q_HO_6, Q_HO_7, Q_BK105, Q_BK106, Q_BK107, Q_BK108, Q_HB, Q_HO167, Q_HO170, Q_HO173, Q_HO176, Q_HO179, Q_HO182, Q_HO185, Q_HO188, Q_HO191, Q_X20_⟩ hb_ hon hoff
     refine ⟨_, rfl, fun K hK => ?_⟩
     have e111 : a.tmps[111]? = some (.agg #[.int .i64 4, .int .i64 0, .string (⟨#[98]⟩ : ByteArray)]) := by rw [ha]; exact putSel_on (e := (10, 111, .agg #[.int .i64 4, .int .i64 0, .string (⟨#[98]⟩ : ByteArray)])) 10 rfl rfl (hon 10 (by kernel_rfl)) rfl
     replace ha := Aside0.mk ha
     have HO_106000 := Aside0.mk Q_HO_106000
     have HO_5 := Aside0.mk Q_HO_5
     have HO_6 := Aside0.mk Q_HO_6
     have HO_7 := Aside0.mk Q_HO_7
     have BK105 := Aside0.mk Q_BK105
     have BK106 := Aside0.mk Q_BK106
     have BK107 := Aside0.mk Q_BK107
     have BK108 := Aside0.mk Q_BK108
     have HB := Aside0.mk Q_HB
     refine value_ (w1 := w') (v := .agg #[.string (⟨#[105]⟩ : ByteArray), .int .i64 1, .int .i64 4, .int .i64 0, .string (⟨#[98]⟩ : ByteArray), .bool false, .bool false]) (by rfl) rfl ?_ ?_
     ·go_simp
      (try simp only [i64_w])
      try rfl
     refine hK.out _ _ ⟨v166, v169, v172, v175, v178, v181, v184, v187, v190, m20_, (by rw [ha.out]; exact putSel_upk 11 hb_ rfl rfl rfl), Q_HO_106000, Q_HO_5, Q_HO_6, Q_HO_7, Q_BK105, Q_BK106, Q_BK107, Q_BK108, Q_HB, Q_HO167, Q_HO170, Q_HO173, Q_HO176, Q_HO179, fun h0_ _ => absurd ((hoff 12 (by kernel_rfl)).symm.trans h0_) (by decide), Q_HO185, Q_HO188, fun h0_ => absurd ((hoff 19 (by kernel_rfl)).symm.trans h0_) (by decide), fun h0_ => absurd ((hoff 20 (by kernel_rfl)).symm.trans h0_) (by decide)⟩
    refine steps_cons ?_ ?_
    ·rintro b a w' ⟨v166, v169, v172, v175, v178, v181, v184, v187, v190, m20_, ha, Q_HO_106000, Q_HO_5, Q_HO_6, Q_HO_7, Q_BK105, Q_BK106, Q_BK107, Q_BK108, Q_HB, Q_HO167, Q_HO170, Q_HO173, Q_HO176, Q_HO179, Q_HO182, Q_HO185, Q_HO188, Q_HO191, Q_X20_⟩ hb_ hon hoff
     rename_i xie0_ xie1_ xie2_ xie3_; revert k r w hu64 hu33 hu26 hu28 A1 y102 Ny102 y109 Ny109 y112 Ny112 y115 Ny115 y118 Ny118 y121 Ny121 y124 Ny124 y127 Ny127 y130 Ny130 y133 Ny133 y136 Ny136 y139 Ny139 y142 Ny142 y145 Ny145 y148 Ny148 y151 Ny151 y154 Ny154 y157 Ny157 xi0_ w3 w4 Ao6 co6 gb105 w7 GW105 GE105 gb106 w9 GW106 GE106 NB105_106 NB106_105 gb107 w10 GW107 GE107 NB105_107 NB107_105 NB106_107 NB107_106 hnb11 hnc11 hnb12 hnc12 hnb14 hnc14 gb108 w16 GW108 GE108 NB105_108 NB108_105 NB106_108 NB108_106 NB107_108 NB108_107 hnb17 hnc17 hnb18 hnc18 hnb19 hnc19 v110 w22 w25 w28 w31 w34 w36 w38 w40 w43 w45 w49 w53 w57 w62 w65 Ao67 co67 Ao68 co68 Ao69 co69 Ao70 co70 Ao71 co71 Ao72 co72 Ao73 co73 Ao74 co74 Ao75 co75 Ao76 co76 Ao77 co77 Ao78 co78 Ao79 co79 Ao80 co80 w81 v158 w83 HO104 HO111 HO159 xi1_ xi2_ xi3_ xi4_ xi5_ xi6_ wr u0 u74 u75 u76 u77 u78 u79 u80 u81 u82 u83 u84 u85 u86 u87 u88 u89 u90 u91 u92 u93 u94 u95 u96 u97 u98 u99 u100 xi8_ xi9_ x8_1 k1 xi11_ HK1 c85b0 c107b0 c107b1 y165 Ny165 y168 Ny168 y171 Ny171 y174 Ny174 y177 Ny177 y180 Ny180 y183 Ny183 y186 Ny186 y189 Ny189 y192 Ny192 H' Ao108 co108 HO156 xi10_ xie0_ xie1_ xie2_ xie3_ hHeld HT_ HW_ w109 b a w' v166 v169 v172 v175 v178 v181 v184 v187 v190 m20_ ha Q_HO_106000 Q_HO_5 Q_HO_6 Q_HO_7 Q_BK105 Q_BK106 Q_BK107 Q_BK108 Q_HB Q_HO167 Q_HO170 Q_HO173 Q_HO176 Q_HO179 Q_HO182 Q_HO185 Q_HO188 Q_HO191 Q_X20_ hb_ hon hoff; exact hole5_
    refine steps_cons ?_ ?_
    ·rintro b a w' ⟨v166, v169, v172, v175, v178, v181, v184, v187, v190, m20_, ha, Q_HO_106000, Q_HO_5, Q_HO_6, Q_HO_7, Q_BK105, Q_BK106, Q_BK107, Q_BK108, Q_HB, Q_HO167, Q_HO170, Q_HO173, Q_HO176, Q_HO179, Q_HO182, Q_HO185, Q_HO188, Q_HO191, Q_X20_⟩ hb_ hon hoff
     refine ⟨_, rfl, fun K hK => ?_⟩
     have e2 : a.tmps[2]? = some (.pointer (some ⟨gb106, 0, none⟩)) := by rw [ha]; exact (putSel_off rfl).trans rfl
     replace ha := Aside0.mk ha
     have HO_106000 := Aside0.mk Q_HO_106000
     have HO_5 := Aside0.mk Q_HO_5
     have HO_6 := Aside0.mk Q_HO_6
     have HO_7 := Aside0.mk Q_HO_7
     have BK105 := Aside0.mk Q_BK105
     have BK106 := Aside0.mk Q_BK106
     have BK107 := Aside0.mk Q_BK107
     have BK108 := Aside0.mk Q_BK108
     have HB := Aside0.mk Q_HB
     have hc0_ : w'.cell? ⟨gb106, 0, none⟩ = some (.int .i64 2) := (blk_cell BK106.out 0).trans rfl
     have hc1_ : w'.cell? ⟨gb106, 1, none⟩ = some (.int .i64 1) := (blk_cell BK106.out 1).trans rfl
     have hc2_ : w'.cell? ⟨gb106, 2, none⟩ = some (.string (⟨#[]⟩ : ByteArray)) := (blk_cell BK106.out 2).trans rfl
     refine value_ (w1 := w') (v := .agg #[.int .i64 2, .int .i64 1, .string (⟨#[]⟩ : ByteArray)]) (by rfl) rfl ?_ ?_
     ·go_simp
      (try simp only [i64_w])
      try rfl
     refine hK.out _ _ ⟨v166, v169, v172, v175, v178, v181, v184, v187, v190, m20_, (by rw [ha.out]; exact putSel_upk 13 hb_ rfl rfl rfl), Q_HO_106000, Q_HO_5, Q_HO_6, Q_HO_7, Q_BK105, Q_BK106, Q_BK107, Q_BK108, Q_HB, Q_HO167, Q_HO170, Q_HO173, Q_HO176, Q_HO179, Q_HO182, fun h0_ _ => absurd ((hoff 15 (by kernel_rfl)).symm.trans h0_) (by decide), Q_HO188, fun h0_ => absurd ((hoff 19 (by kernel_rfl)).symm.trans h0_) (by decide), fun h0_ => absurd ((hoff 20 (by kernel_rfl)).symm.trans h0_) (by decide)⟩
    refine steps_cons ?_ ?_
    ·rintro b a w' ⟨v166, v169, v172, v175, v178, v181, v184, v187, v190, m20_, ha, Q_HO_106000, Q_HO_5, Q_HO_6, Q_HO_7, Q_BK105, Q_BK106, Q_BK107, Q_BK108, Q_HB, Q_HO167, Q_HO170, Q_HO173, Q_HO176, Q_HO179, Q_HO182, Q_HO185, Q_HO188, Q_HO191, Q_X20_⟩ hb_ hon hoff
     refine ⟨_, rfl, fun K hK => ?_⟩
     have e114 : a.tmps[114]? = some (.agg #[.int .i64 2, .int .i64 1, .string (⟨#[]⟩ : ByteArray)]) := by rw [ha]; exact putSel_on (e := (13, 114, .agg #[.int .i64 2, .int .i64 1, .string (⟨#[]⟩ : ByteArray)])) 13 rfl rfl (hon 13 (by kernel_rfl)) rfl
     replace ha := Aside0.mk ha
     have HO_106000 := Aside0.mk Q_HO_106000
     have HO_5 := Aside0.mk Q_HO_5
     have HO_6 := Aside0.mk Q_HO_6
     have HO_7 := Aside0.mk Q_HO_7
     have BK105 := Aside0.mk Q_BK105
     have BK106 := Aside0.mk Q_BK106
     have BK107 := Aside0.mk Q_BK107
     have BK108 := Aside0.mk Q_BK108
     have HB := Aside0.mk Q_HB
     refine value_ (w1 := w') (v := .agg #[.string (⟨#[116]⟩ : ByteArray), .int .i64 1, .int .i64 2, .int .i64 1, .string (⟨#[]⟩ : ByteArray), .bool false, .bool false]) (by rfl) rfl ?_ ?_
     ·go_simp
      (try simp only [i64_w])
      try rfl
     refine hK.out _ _ ⟨v166, v169, v172, v175, v178, v181, v184, v187, v190, m20_, (by rw [ha.out]; exact putSel_upk 14 hb_ rfl rfl rfl), Q_HO_106000, Q_HO_5, Q_HO_6, Q_HO_7, Q_BK105, Q_BK106, Q_BK107, Q_BK108, Q_HB, Q_HO167, Q_HO170, Q_HO173, Q_HO176, Q_HO179, Q_HO182, fun h0_ _ => absurd ((hoff 15 (by kernel_rfl)).symm.trans h0_) (by decide), Q_HO188, fun h0_ => absurd ((hoff 19 (by kernel_rfl)).symm.trans h0_) (by decide), fun h0_ => absurd ((hoff 20 (by kernel_rfl)).symm.trans h0_) (by decide)⟩
    refine steps_cons ?_ ?_
    ·rintro b a w' ⟨v166, v169, v172, v175, v178, v181, v184, v187, v190, m20_, ha, Q_HO_106000, Q_HO_5, Q_HO_6, Q_HO_7, Q_BK105, Q_BK106, Q_BK107, Q_BK108, Q_HB, Q_HO167, Q_HO170, Q_HO173, Q_HO176, Q_HO179, Q_HO182, Q_HO185, Q_HO188, Q_HO191, Q_X20_⟩ hb_ hon hoff
     rename_i xie0_ xie1_ xie2_ xie3_; revert k r w hu64 hu33 hu26 hu28 A1 y102 Ny102 y109 Ny109 y112 Ny112 y115 Ny115 y118 Ny118 y121 Ny121 y124 Ny124 y127 Ny127 y130 Ny130 y133 Ny133 y136 Ny136 y139 Ny139 y142 Ny142 y145 Ny145 y148 Ny148 y151 Ny151 y154 Ny154 y157 Ny157 xi0_ w3 w4 Ao6 co6 gb105 w7 GW105 GE105 gb106 w9 GW106 GE106 NB105_106 NB106_105 gb107 w10 GW107 GE107 NB105_107 NB107_105 NB106_107 NB107_106 hnb11 hnc11 hnb12 hnc12 hnb14 hnc14 gb108 w16 GW108 GE108 NB105_108 NB108_105 NB106_108 NB108_106 NB107_108 NB108_107 hnb17 hnc17 hnb18 hnc18 hnb19 hnc19 v110 w22 w25 w28 w31 w34 w36 w38 w40 w43 w45 w49 w53 w57 w62 w65 Ao67 co67 Ao68 co68 Ao69 co69 Ao70 co70 Ao71 co71 Ao72 co72 Ao73 co73 Ao74 co74 Ao75 co75 Ao76 co76 Ao77 co77 Ao78 co78 Ao79 co79 Ao80 co80 w81 v158 w83 HO104 HO111 HO159 xi1_ xi2_ xi3_ xi4_ xi5_ xi6_ wr u0 u74 u75 u76 u77 u78 u79 u80 u81 u82 u83 u84 u85 u86 u87 u88 u89 u90 u91 u92 u93 u94 u95 u96 u97 u98 u99 u100 xi8_ xi9_ x8_1 k1 xi11_ HK1 c85b0 c107b0 c107b1 y165 Ny165 y168 Ny168 y171 Ny171 y174 Ny174 y177 Ny177 y180 Ny180 y183 Ny183 y186 Ny186 y189 Ny189 y192 Ny192 H' Ao108 co108 HO156 xi10_ xie0_ xie1_ xie2_ xie3_ hHeld HT_ HW_ w109 b a w' v166 v169 v172 v175 v178 v181 v184 v187 v190 m20_ ha Q_HO_106000 Q_HO_5 Q_HO_6 Q_HO_7 Q_BK105 Q_BK106 Q_BK107 Q_BK108 Q_HB Q_HO167 Q_HO170 Q_HO173 Q_HO176 Q_HO179 Q_HO182 Q_HO185 Q_HO188 Q_HO191 Q_X20_ hb_ hon hoff; exact hole6_
    refine steps_cons ?_ ?_
    ·rintro b a w' ⟨v166, v169, v172, v175, v178, v181, v184, v187, v190, m20_, ha, Q_HO_106000, Q_HO_5, Q_HO_6, Q_HO_7, Q_BK105, Q_BK106, Q_BK107, Q_BK108, Q_HB, Q_HO167, Q_HO170, Q_HO173, Q_HO176, Q_HO179, Q_HO182, Q_HO185, Q_HO188, Q_HO191, Q_X20_⟩ hb_ hon hoff
     refine ⟨_, rfl, fun K hK => ?_⟩
     replace ha := Aside0.mk ha
     have HO_106000 := Aside0.mk Q_HO_106000
     have HO_5 := Aside0.mk Q_HO_5
     have HO_6 := Aside0.mk Q_HO_6
     have HO_7 := Aside0.mk Q_HO_7
     have BK105 := Aside0.mk Q_BK105
     have BK106 := Aside0.mk Q_BK106
     have BK107 := Aside0.mk Q_BK107
     have BK108 := Aside0.mk Q_BK108
     have HB := Aside0.mk Q_HB
     refine value_ (w1 := w') (v := .agg #[.string (⟨#[120]⟩ : ByteArray), .int .i64 7, .int .i64 0, .int .i64 0, .string (⟨#[]⟩ : ByteArray), .bool false, .bool false]) (by rfl) rfl ?_ ?_
     ·go_simp
      (try simp only [i64_w])
      try rfl
     refine hK.out _ _ ⟨v166, v169, v172, v175, v178, v181, v184, v187, v190, m20_, (by rw [ha.out]; exact putSel_upk 16 hb_ rfl rfl rfl), Q_HO_106000, Q_HO_5, Q_HO_6, Q_HO_7, Q_BK105, Q_BK106, Q_BK107, Q_BK108, Q_HB, Q_HO167, Q_HO170, Q_HO173, Q_HO176, Q_HO179, Q_HO182, Q_HO185, fun h0_ _ => absurd ((hoff 18 (by kernel_rfl)).symm.trans h0_) (by decide), fun h0_ => absurd ((hoff 19 (by kernel_rfl)).symm.trans h0_) (by decide), fun h0_ => absurd ((hoff 20 (by kernel_rfl)).symm.trans h0_) (by decide)⟩
    refine steps_cons ?_ ?_
    ·rintro b a w' ⟨v166, v169, v172, v175, v178, v181, v184, v187, v190, m20_, ha, Q_HO_106000, Q_HO_5, Q_HO_6, Q_HO_7, Q_BK105, Q_BK106, Q_BK107, Q_BK108, Q_HB, Q_HO167, Q_HO170, Q_HO173, Q_HO176, Q_HO179, Q_HO182, Q_HO185, Q_HO188, Q_HO191, Q_X20_⟩ hb_ hon hoff
     refine ⟨_, rfl, fun K hK => ?_⟩
     replace ha := Aside0.mk ha
     have HO_106000 := Aside0.mk Q_HO_106000
     have HO_5 := Aside0.mk Q_HO_5
     have HO_6 := Aside0.mk Q_HO_6
     have HO_7 := Aside0.mk Q_HO_7
     have BK105 := Aside0.mk Q_BK105
     have BK106 := Aside0.mk Q_BK106
     have BK107 := Aside0.mk Q_BK107
     have BK108 := Aside0.mk Q_BK108
     have HB := Aside0.mk Q_HB
     refine value_ (w1 := w') (v := .agg #[.string (⟨#[105]⟩ : ByteArray), .int .i64 0, .int .i64 0, .int .i64 0, .string (⟨#[]⟩ : ByteArray), .bool false, .bool false]) (by rfl) rfl ?_ ?_
     ·go_simp
      (try simp only [i64_w])
      try rfl
     refine hK.out _ _ ⟨v166, v169, v172, v175, v178, v181, v184, v187, v190, m20_, (by rw [ha.out]; exact putSel_upk 17 hb_ rfl rfl rfl), Q_HO_106000, Q_HO_5, Q_HO_6, Q_HO_7, Q_BK105, Q_BK106, Q_BK107, Q_BK108, Q_HB, Q_HO167, Q_HO170, Q_HO173, Q_HO176, Q_HO179, Q_HO182, Q_HO185, fun h0_ _ => absurd ((hoff 18 (by kernel_rfl)).symm.trans h0_) (by decide), fun h0_ => absurd ((hoff 19 (by kernel_rfl)).symm.trans h0_) (by decide), fun h0_ => absurd ((hoff 20 (by kernel_rfl)).symm.trans h0_) (by decide)⟩
    refine steps_cons ?_ ?_
    ·rintro b a w' ⟨v166, v169, v172, v175, v178, v181, v184, v187, v190, m20_, ha, Q_HO_106000, Q_HO_5, Q_HO_6, Q_HO_7, Q_BK105, Q_BK106, Q_BK107, Q_BK108, Q_HB, Q_HO167, Q_HO170, Q_HO173, Q_HO176, Q_HO179, Q_HO182, Q_HO185, Q_HO188, Q_HO191, Q_X20_⟩ hb_ hon hoff
     rename_i xie0_ xie1_ xie2_ xie3_; revert k r w hu64 hu33 hu26 hu28 A1 y102 Ny102 y109 Ny109 y112 Ny112 y115 Ny115 y118 Ny118 y121 Ny121 y124 Ny124 y127 Ny127 y130 Ny130 y133 Ny133 y136 Ny136 y139 Ny139 y142 Ny142 y145 Ny145 y148 Ny148 y151 Ny151 y154 Ny154 y157 Ny157 xi0_ w3 w4 Ao6 co6 gb105 w7 GW105 GE105 gb106 w9 GW106 GE106 NB105_106 NB106_105 gb107 w10 GW107 GE107 NB105_107 NB107_105 NB106_107 NB107_106 hnb11 hnc11 hnb12 hnc12 hnb14 hnc14 gb108 w16 GW108 GE108 NB105_108 NB108_105 NB106_108 NB108_106 NB107_108 NB108_107 hnb17 hnc17 hnb18 hnc18 hnb19 hnc19 v110 w22 w25 w28 w31 w34 w36 w38 w40 w43 w45 w49 w53 w57 w62 w65 Ao67 co67 Ao68 co68 Ao69 co69 Ao70 co70 Ao71 co71 Ao72 co72 Ao73 co73 Ao74 co74 Ao75 co75 Ao76 co76 Ao77 co77 Ao78 co78 Ao79 co79 Ao80 co80 w81 v158 w83 HO104 HO111 HO159 xi1_ xi2_ xi3_ xi4_ xi5_ xi6_ wr u0 u74 u75 u76 u77 u78 u79 u80 u81 u82 u83 u84 u85 u86 u87 u88 u89 u90 u91 u92 u93 u94 u95 u96 u97 u98 u99 u100 xi8_ xi9_ x8_1 k1 xi11_ HK1 c85b0 c107b0 c107b1 y165 Ny165 y168 Ny168 y171 Ny171 y174 Ny174 y177 Ny177 y180 Ny180 y183 Ny183 y186 Ny186 y189 Ny189 y192 Ny192 H' Ao108 co108 HO156 xi10_ xie0_ xie1_ xie2_ xie3_ hHeld HT_ HW_ w109 b a w' v166 v169 v172 v175 v178 v181 v184 v187 v190 m20_ ha Q_HO_106000 Q_HO_5 Q_HO_6 Q_HO_7 Q_BK105 Q_BK106 Q_BK107 Q_BK108 Q_HB Q_HO167 Q_HO170 Q_HO173 Q_HO176 Q_HO179 Q_HO182 Q_HO185 Q_HO188 Q_HO191 Q_X20_ hb_ hon hoff; exact hole7_
    refine steps_cons ?_ ?_
    ·rintro b a w' ⟨v166, v169, v172, v175, v178, v181, v184, v187, v190, m20_, ha, Q_HO_106000, Q_HO_5, Q_HO_6, Q_HO_7, Q_BK105, Q_BK106, Q_BK107, Q_BK108, Q_HB, Q_HO167, Q_HO170, Q_HO173, Q_HO176, Q_HO179, Q_HO182, Q_HO185, Q_HO188, Q_HO191, Q_X20_⟩ hb_ hon hoff
     rename_i xie0_ xie1_ xie2_ xie3_; revert k r w hu64 hu33 hu26 hu28 A1 y102 Ny102 y109 Ny109 y112 Ny112 y115 Ny115 y118 Ny118 y121 Ny121 y124 Ny124 y127 Ny127 y130 Ny130 y133 Ny133 y136 Ny136 y139 Ny139 y142 Ny142 y145 Ny145 y148 Ny148 y151 Ny151 y154 Ny154 y157 Ny157 xi0_ w3 w4 Ao6 co6 gb105 w7 GW105 GE105 gb106 w9 GW106 GE106 NB105_106 NB106_105 gb107 w10 GW107 GE107 NB105_107 NB107_105 NB106_107 NB107_106 hnb11 hnc11 hnb12 hnc12 hnb14 hnc14 gb108 w16 GW108 GE108 NB105_108 NB108_105 NB106_108 NB108_106 NB107_108 NB108_107 hnb17 hnc17 hnb18 hnc18 hnb19 hnc19 v110 w22 w25 w28 w31 w34 w36 w38 w40 w43 w45 w49 w53 w57 w62 w65 Ao67 co67 Ao68 co68 Ao69 co69 Ao70 co70 Ao71 co71 Ao72 co72 Ao73 co73 Ao74 co74 Ao75 co75 Ao76 co76 Ao77 co77 Ao78 co78 Ao79 co79 Ao80 co80 w81 v158 w83 HO104 HO111 HO159 xi1_ xi2_ xi3_ xi4_ xi5_ xi6_ wr u0 u74 u75 u76 u77 u78 u79 u80 u81 u82 u83 u84 u85 u86 u87 u88 u89 u90 u91 u92 u93 u94 u95 u96 u97 u98 u99 u100 xi8_ xi9_ x8_1 k1 xi11_ HK1 c85b0 c107b0 c107b1 y165 Ny165 y168 Ny168 y171 Ny171 y174 Ny174 y177 Ny177 y180 Ny180 y183 Ny183 y186 Ny186 y189 Ny189 y192 Ny192 H' Ao108 co108 HO156 xi10_ xie0_ xie1_ xie2_ xie3_ hHeld HT_ HW_ w109 b a w' v166 v169 v172 v175 v178 v181 v184 v187 v190 m20_ ha Q_HO_106000 Q_HO_5 Q_HO_6 Q_HO_7 Q_BK105 Q_BK106 Q_BK107 Q_BK108 Q_HB Q_HO167 Q_HO170 Q_HO173 Q_HO176 Q_HO179 Q_HO182 Q_HO185 Q_HO188 Q_HO191 Q_X20_ hb_ hon hoff; exact hole8_
    refine steps_cons ?_ ?_
    ·rintro b a w' ⟨v166, v169, v172, v175, v178, v181, v184, v187, v190, m20_, ha, Q_HO_106000, Q_HO_5, Q_HO_6, Q_HO_7, Q_BK105, Q_BK106, Q_BK107, Q_BK108, Q_HB, Q_HO167, Q_HO170, Q_HO173, Q_HO176, Q_HO179, Q_HO182, Q_HO185, Q_HO188, Q_HO191, Q_X20_⟩ hb_ hon hoff
     refine ⟨_, rfl, fun K hK => ?_⟩
     have e120 : a.tmps[120]? = some (v190) := by rw [ha]; exact putSel_on (e := (19, 120, v190)) 19 rfl rfl (hon 19 (by kernel_rfl)) rfl
     replace ha := Aside0.mk ha
     have HO_106000 := Aside0.mk Q_HO_106000
     have HO_5 := Aside0.mk Q_HO_5
     have HO_6 := Aside0.mk Q_HO_6
     have HO_7 := Aside0.mk Q_HO_7
     have BK105 := Aside0.mk Q_BK105
     have BK106 := Aside0.mk Q_BK106
     have BK107 := Aside0.mk Q_BK107
     have BK108 := Aside0.mk Q_BK108
     have HB := Aside0.mk Q_HB
     have HO191 := Aside0.mk (Q_HO191 (hon 19 (by kernel_rfl)))
     refine value_ (w1 := w') (v := v190) (by rfl) rfl ?_ ?_
     ·go_simp
      (try simp only [i64_w])
      try rfl
     refine hK.out _ _ ⟨v166, v169, v172, v175, v178, v181, v184, v187, v190, (v190), (by rw [ha.out]; exact putSel_upk 20 hb_ rfl rfl rfl), Q_HO_106000, Q_HO_5, Q_HO_6, Q_HO_7, Q_BK105, Q_BK106, Q_BK107, Q_BK108, Q_HB, fun _ h1_ => absurd ((hon 19 (by kernel_rfl)).symm.trans h1_) (by decide), fun _ h1_ => absurd ((hon 19 (by kernel_rfl)).symm.trans h1_) (by decide), fun _ h1_ => absurd ((hon 19 (by kernel_rfl)).symm.trans h1_) (by decide), fun _ h1_ => absurd ((hon 19 (by kernel_rfl)).symm.trans h1_) (by decide), fun _ h1_ => absurd ((hon 19 (by kernel_rfl)).symm.trans h1_) (by decide), fun _ h1_ => absurd ((hon 19 (by kernel_rfl)).symm.trans h1_) (by decide), fun _ h1_ => absurd ((hon 19 (by kernel_rfl)).symm.trans h1_) (by decide), fun _ h1_ => absurd ((hon 19 (by kernel_rfl)).symm.trans h1_) (by decide), Q_HO191, fun _ => rfl⟩
    exact steps_nil
   rintro b a w136 hall ⟨v166, v169, v172, v175, v178, v181, v184, v187, v190, m20_, ha, Q_HO_106000, Q_HO_5, Q_HO_6, Q_HO_7, Q_BK105, Q_BK106, Q_BK107, Q_BK108, Q_HB, Q_HO167, Q_HO170, Q_HO173, Q_HO176, Q_HO179, Q_HO182, Q_HO185, Q_HO188, Q_HO191, Q_X20_⟩
   clear BK105 BK106 BK107 BK108 HB HO_106000 HO_5 HO_6 HO_7
   have hb0_ := hall 0 (by kernel_rfl)
   have hb1_ := hall 1 (by kernel_rfl)
   have hb2_ := hall 2 (by kernel_rfl)
   have hb3_ := hall 3 (by kernel_rfl)
   have hb4_ := hall 4 (by kernel_rfl)
   have hb5_ := hall 5 (by kernel_rfl)
   have hb6_ := hall 6 (by kernel_rfl)
   have hb7_ := hall 7 (by kernel_rfl)
   have hb8_ := hall 8 (by kernel_rfl)
   have hb9_ := hall 9 (by kernel_rfl)
   have hb10_ := hall 10 (by kernel_rfl)
   have hb11_ := hall 11 (by kernel_rfl)
   have hb12_ := hall 12 (by kernel_rfl)
   have hb13_ := hall 13 (by kernel_rfl)
   have hb14_ := hall 14 (by kernel_rfl)
   have hb15_ := hall 15 (by kernel_rfl)
   have hb16_ := hall 16 (by kernel_rfl)
   have hb17_ := hall 17 (by kernel_rfl)
   have hb18_ := hall 18 (by kernel_rfl)
   have hb19_ := hall 19 (by kernel_rfl)
   have hb20_ := hall 20 (by kernel_rfl)
   subst ha
   obtain rfl := (Q_X20_ hb20_).symm
   simp only [putSel, hb0_, hb1_, hb2_, hb3_, hb4_, hb5_, hb6_, hb7_, hb8_, hb9_, hb10_, hb11_, hb12_, hb13_, hb14_, hb15_, hb16_, hb17_, hb18_, hb19_, hb20_, if_true, Act.put, List.setIfInBounds_toArray, List.set_cons_zero, List.set_cons_succ]
   have HO_106000 := Aside0.mk Q_HO_106000
   clear Q_HO_106000
   have HO_5 := Aside0.mk Q_HO_5
   clear Q_HO_5
   have HO_6 := Aside0.mk Q_HO_6
   clear Q_HO_6
   have HO_7 := Aside0.mk Q_HO_7
   clear Q_HO_7
   have BK105 := Aside0.mk Q_BK105
   clear Q_BK105
   have BK106 := Aside0.mk Q_BK106
   clear Q_BK106
   have BK107 := Aside0.mk Q_BK107
   clear Q_BK107
   have BK108 := Aside0.mk Q_BK108
   clear Q_BK108
   have HB := Aside0.mk Q_HB
   clear Q_HB
   clear Q_HO167
   clear Q_HO170
   clear Q_HO173
   clear Q_HO176
   clear Q_HO179
   clear Q_HO182
   clear Q_HO185
   clear Q_HO188
   have HO191 := Aside0.mk (Q_HO191 hb19_)
   clear Q_HO191
   clear hall hb0_ hb1_ hb2_ hb3_ hb4_ hb5_ hb6_ hb7_ hb8_ hb9_ hb10_ hb11_ hb12_ hb13_ hb14_ hb15_ hb16_ hb17_ hb18_ hb19_ hb20_
   try go_wp2_with (first | ((with_reducible refine gate_dst (N := 121) rfl ?_); refine Kd.R_lit (Kd.int .i64) _ 53 ?hg (N := 121) ?hd (xs := ([1, 1, 1, 1, 3, 4, 4, 1] : List Int)) (inner := [.int .i64 1, .int .i64 1, .int .i64 1, .int .i64 1, .int .i64 3, .int .i64 4, .int .i64 4, .int .i64 1]) (ok := fun _ => True) (okp := fun _ => True) ?hr ?hp (fun _ hk => hk) trivial (Below.refl _ _) (Nat.le_refl _) (by simp) ?_; (case hd => rfl); (case hg => rfl); (case hr => first | (go_simp; done) | (go_simp; rfl)); (case hp => exact (Reps.one (show Kd.M (Kd.int .i64) _ _ _ 1 [.int .i64 1] from rfl) (Reps.one (show Kd.M (Kd.int .i64) _ _ _ 1 [.int .i64 1] from rfl) (Reps.one (show Kd.M (Kd.int .i64) _ _ _ 1 [.int .i64 1] from rfl) (Reps.one (show Kd.M (Kd.int .i64) _ _ _ 1 [.int .i64 1] from rfl) (Reps.one (show Kd.M (Kd.int .i64) _ _ _ 3 [.int .i64 3] from rfl) (Reps.one (show Kd.M (Kd.int .i64) _ _ _ 4 [.int .i64 4] from rfl) (Reps.one (show Kd.M (Kd.int .i64) _ _ _ 4 [.int .i64 4] from rfl) (Reps.one (show Kd.M (Kd.int .i64) _ _ _ 1 [.int .i64 1] from rfl) (Reps.none _ _)))))))))); intro v193 w137 ho138 hb hg_ hnew_; clear hg_ hnew_; (first | rw [← Ny192.out] at ho138 | (simp only [Int.reduceToNat] at ho138; rw [← Ny192.out] at ho138)); have n0_ := qR HO_5 hb; have n1_ := Aside0.mk (Kd.N_elder' (by (with_reducible repeat (first | apply Kd.N_alloc | apply Kd.N_drewN | apply Kd.N_drew)); exact HO_6.out) (Kd.R_base ho138) hb); have n2_ := qR HO_7 hb; have n3_ := qR HO_106000 hb; have n4_ := Aside0.mk (Kd.N_elder' (by (with_reducible repeat (first | apply Kd.N_alloc | apply Kd.N_drewN | apply Kd.N_drew)); exact HO191.out) (Kd.R_base ho138) hb); have n5_ := Aside0.mk (Kd.R_lower ho138 (qZ HB)); have n6_ := qB BK105 hb; have n7_ := qB BK106 hb; have n8_ := qB BK107 hb; have n9_ := qB BK108 hb; have n10_ := qS HB hb; clear HO_5; clear HO_6; clear HO_7; clear HO_106000; clear HO191; clear BK105; clear BK106; clear BK107; clear BK108; clear HB; have HO_5 := n0_; have HO_6 := n1_; have HO_7 := n2_; have HO_106000 := n3_; have HO191 := n4_; have HO194 := n5_; have BK105 := n6_; have BK106 := n7_; have BK107 := n8_; have BK108 := n9_; have HB := n10_; clear n0_ n1_ n2_ n3_ n4_ n5_ n6_ n7_ n8_ n9_ n10_; clear hb ho138))
   go_loopg [11] k1 (fun kq v11 w' => ∃ (x11_2 : Int), v11 = .int .i64 x11_2 ∧ Aside0 (rabbetlaw23_PredForms.l1 kq y189 y192 x11_2 y102 2 4 0 (⟨#[98]⟩ : ByteArray) = some r) ∧ Aside0 (kq ≤ k1) ∧ Aside0 (Kd.N (Kd.slice 28 k28) 23 w' w.heap.size (fun k_ => some k_ ≠ (v193 : Value).ownBlock ∧ some k_ ≠ ((.slice Ao6 y102.length co6) : Value).ownBlock ∧ k_ ≠ gb105 ∧ k_ ≠ gb106 ∧ k_ ≠ gb107 ∧ k_ ≠ gb108) v190 y189) ∧ Aside0 (Kd.R (Kd.int .i64) 53 w' w.heap.size (fun _ => True) v193 y192) ∧ Aside0 (Kd.R k64 64 w' w.heap.size (fun _ => True) (.slice Ao6 y102.length co6) y102) ∧ Aside0 (w'.heap[gb105]? = some (.cells #[(.slice Ao6 y102.length co6), .int .i64 2] 33 (0, 0))) ∧ Aside0 (w'.heap[gb106]? = some (.cells #[.int .i64 2, .int .i64 1, .string (⟨#[]⟩ : ByteArray)] 26 (0, 0))) ∧ Aside0 (w'.heap[gb107]? = some (.cells #[.int .i64 1, .int .i64 2, .string (⟨#[]⟩ : ByteArray)] 26 (0, 0))) ∧ Aside0 (w'.heap[gb108]? = some (.cells #[.int .i64 4, .int .i64 0, .string (⟨#[98]⟩ : ByteArray)] 26 (0, 0))) ∧ Aside0 (Below w.heap.size w w'))
   case atStart => exact ⟨(0), (by first | rfl | (simp; done) | (simp [*]; done)), H', ⟨Nat.le_refl _⟩, ⟨by (with_reducible repeat (first | apply Kd.N_alloc | apply Kd.N_drewN | apply Kd.N_drew)); exact Kd.N_mono HO191.out (fun _ hk => ⟨hk.2, ⟨hk.1.1, ⟨hk.1.2.2.2.2.1, ⟨hk.1.2.2.2.2.2.1, ⟨hk.1.2.2.2.2.2.2.1, hk.1.2.2.2.2.2.2.2⟩⟩⟩⟩⟩)⟩, ⟨by (with_reducible repeat (first | apply Kd.R_alloc | apply Kd.R_drewN | apply Kd.R_drew)); exact HO194.out⟩, ⟨by (with_reducible repeat (first | apply Kd.R_alloc | apply Kd.R_drewN | apply Kd.R_drew)); exact HO_106000.out⟩, ⟨by (with_reducible repeat (first | refine blk_drewN ?_ _ | refine blk_drew ?_ | refine blk_alloc ?_ _)); exact BK105.out⟩, ⟨by (with_reducible repeat (first | refine blk_drewN ?_ _ | refine blk_drew ?_ | refine blk_alloc ?_ _)); exact BK106.out⟩, ⟨by (with_reducible repeat (first | refine blk_drewN ?_ _ | refine blk_drew ?_ | refine blk_alloc ?_ _)); exact BK107.out⟩, ⟨by (with_reducible repeat (first | refine blk_drewN ?_ _ | refine blk_drew ?_ | refine blk_alloc ?_ _)); exact BK108.out⟩, ⟨by repeat (first | (with_reducible first | exact HB.out | apply below_alloc | apply pw_below_drewN | apply below_drew1 | refine below_set ?_ GE105.out | refine below_set ?_ GE106.out | refine below_set ?_ GE107.out | refine below_set ?_ GE108.out) | exact HB.out)⟩⟩
   case round =>
    clear H'
    try clear c1
    try clear c2
    try clear p2
    try clear c7
    obtain ⟨x11_2, rfl, HA, HK2, HO_9, HO_10, HO_106000, BK105, BK106, BK107, BK108, HB⟩ := hrel
    cases gk with
    | zero => exact absurd HA.out (by simp [rabbetlaw23_PredForms.l1])
    | succ k2 =>
     have H := HA.out
     clear HA
     simp only [rabbetlaw23_PredForms.l1] at H
     by_cases c139 : x11_2 < (y189.length : Int)
     ·rw [if_pos c139] at H
      have c139b0 : decide (x11_2 < (y189.length : Int)) = true := decide_eq_true c139
      clear c139
      by_cases c140 : 0 ≤ x11_2
      ·rw [if_pos c140] at H
       have c140b0 : decide (0 ≤ x11_2) = true := decide_eq_true c140
       clear c140
       replace H := Option.bind_eq_some_iff.mp H
       obtain ⟨t196, A1410, H⟩ := H
       replace H : (if x11_2 < (y192.length : Int) then (if t196 = (rd y192 x11_2) then (rabbetlaw23_PredForms.l1 k2 y189 y192 (wrap64 (x11_2 + 1)) y102 2 4 0 (⟨#[98]⟩ : ByteArray)) else (some false)) else (none)) = some r := H
       have A141 := Aside0.mk A1410
       clear A1410
       by_cases c142 : x11_2 < (y192.length : Int)
       ·rw [if_pos c142] at H
        have c142b0 : decide (x11_2 < (y192.length : Int)) = true := decide_eq_true c142
        clear c142
        by_cases c143 : t196 = (rd y192 x11_2)
        ·rw [if_pos c143] at H
         rename_i xie0_ xie1_ xie2_ xie3_ xie4_ xie5_ xie6_ xie7_ xie8_ xie9_ xie10_ xie11_ xie12_ xie13_ xie14_ xie15_; revert k r w hu64 hu33 hu26 hu28 A1 y102 Ny102 y109 Ny109 y112 Ny112 y115 Ny115 y118 Ny118 y121 Ny121 y124 Ny124 y127 Ny127 y130 Ny130 y133 Ny133 y136 Ny136 y139 Ny139 y142 Ny142 y145 Ny145 y148 Ny148 y151 Ny151 y154 Ny154 y157 Ny157 xi0_ w3 w4 Ao6 co6 gb105 w7 GW105 GE105 gb106 w9 GW106 GE106 NB105_106 NB106_105 gb107 w10 GW107 GE107 NB105_107 NB107_105 NB106_107 NB107_106 hnb11 hnc11 hnb12 hnc12 hnb14 hnc14 gb108 w16 GW108 GE108 NB105_108 NB108_105 NB106_108 NB108_106 NB107_108 NB108_107 hnb17 hnc17 hnb18 hnc18 hnb19 hnc19 v110 w22 w25 w28 w31 w34 w36 w38 w40 w43 w45 w49 w53 w57 w62 w65 Ao67 co67 Ao68 co68 Ao69 co69 Ao70 co70 Ao71 co71 Ao72 co72 Ao73 co73 Ao74 co74 Ao75 co75 Ao76 co76 Ao77 co77 Ao78 co78 Ao79 co79 Ao80 co80 w81 v158 w83 HO104 HO111 HO159 xi1_ xi2_ xi3_ xi4_ xi5_ xi6_ xie0_ xie1_ u74 u75 u76 u77 u78 u79 u80 u81 u82 u83 u84 u85 u86 u87 u88 u89 u90 u91 u92 u93 u94 u95 u96 u97 u98 u99 u100 xi8_ xi9_ x8_1 k1 xi11_ HK1 c85b0 c107b0 c107b1 y165 Ny165 y168 Ny168 y171 Ny171 y174 Ny174 y177 Ny177 y180 Ny180 y183 Ny183 y186 Ny186 y189 Ny189 y192 Ny192 Ao108 co108 HO156 xi10_ xie2_ xie3_ hHeld HT_ HW_ w109 b w136 v166 v169 v172 v175 v178 v181 v184 v187 v190 v193 w137 HO_5 HO_6 HO_7 xie4_ HO191 HO194 xie5_ xie6_ xie7_ xie8_ xie9_ xie10_ xie11_ Q_X20_ wr u0 u122 u123 u124 u125 u126 u127 u128 u129 u130 u131 u132 u133 u134 u135 u136 u137 u138 xie12_ xie13_ xie14_ x11_2 HO_9 HO_10 HO_106000 BK105 BK106 BK107 BK108 HB k2 xie15_ HK2 c139b0 c140b0 t196 H A141 c142b0 c143; exact hole9_
        ·rw [if_neg c143] at H
         rename_i xie0_ xie1_ xie2_ xie3_ xie4_ xie5_ xie6_ xie7_ xie8_ xie9_ xie10_ xie11_ xie12_ xie13_ xie14_ xie15_; revert k r w hu64 hu33 hu26 hu28 A1 y102 Ny102 y109 Ny109 y112 Ny112 y115 Ny115 y118 Ny118 y121 Ny121 y124 Ny124 y127 Ny127 y130 Ny130 y133 Ny133 y136 Ny136 y139 Ny139 y142 Ny142 y145 Ny145 y148 Ny148 y151 Ny151 y154 Ny154 y157 Ny157 xi0_ w3 w4 Ao6 co6 gb105 w7 GW105 GE105 gb106 w9 GW106 GE106 NB105_106 NB106_105 gb107 w10 GW107 GE107 NB105_107 NB107_105 NB106_107 NB107_106 hnb11 hnc11 hnb12 hnc12 hnb14 hnc14 gb108 w16 GW108 GE108 NB105_108 NB108_105 NB106_108 NB108_106 NB107_108 NB108_107 hnb17 hnc17 hnb18 hnc18 hnb19 hnc19 v110 w22 w25 w28 w31 w34 w36 w38 w40 w43 w45 w49 w53 w57 w62 w65 Ao67 co67 Ao68 co68 Ao69 co69 Ao70 co70 Ao71 co71 Ao72 co72 Ao73 co73 Ao74 co74 Ao75 co75 Ao76 co76 Ao77 co77 Ao78 co78 Ao79 co79 Ao80 co80 w81 v158 w83 HO104 HO111 HO159 xi1_ xi2_ xi3_ xi4_ xi5_ xi6_ xie0_ xie1_ u74 u75 u76 u77 u78 u79 u80 u81 u82 u83 u84 u85 u86 u87 u88 u89 u90 u91 u92 u93 u94 u95 u96 u97 u98 u99 u100 xi8_ xi9_ x8_1 k1 xi11_ HK1 c85b0 c107b0 c107b1 y165 Ny165 y168 Ny168 y171 Ny171 y174 Ny174 y177 Ny177 y180 Ny180 y183 Ny183 y186 Ny186 y189 Ny189 y192 Ny192 Ao108 co108 HO156 xi10_ xie2_ xie3_ hHeld HT_ HW_ w109 b w136 v166 v169 v172 v175 v178 v181 v184 v187 v190 v193 w137 HO_5 HO_6 HO_7 xie4_ HO191 HO194 xie5_ xie6_ xie7_ xie8_ xie9_ xie10_ xie11_ Q_X20_ wr u0 u122 u123 u124 u125 u126 u127 u128 u129 u130 u131 u132 u133 u134 u135 u136 u137 u138 xie12_ xie13_ xie14_ x11_2 HO_9 HO_10 HO_106000 BK105 BK106 BK107 BK108 HB k2 xie15_ HK2 c139b0 c140b0 t196 H A141 c142b0 c143; exact hole10_
       ·rw [if_neg c142] at H
        exact absurd H (by simp)
      ·rw [if_neg c140] at H
       exact absurd H (by simp)
     ·rw [if_neg c139] at H
      have c139b0 : decide (x11_2 < (y189.length : Int)) = false := decide_eq_false c139
      clear c139
      obtain ⟨y198, hy198⟩ : ∃ y_ : List (S28), y_ = (([(⟨(⟨#[105]⟩ : ByteArray), 7, (⟨4, 0, (⟨#[98]⟩ : ByteArray)⟩ : S26), false, false⟩ : S28)] : List (S28))) := ⟨_, rfl⟩
      replace H : ((pred_Check.f y102 2 y198).bind fun t201 => (some (t201 == 0))) = some r := by first | (rw [hy198]; with_reducible exact H) | (have H2_ := (Option.bind_some _ _).symm.trans H; rw [hy198]; with_reducible exact H2_) | (have H2_ := (Option.bind_some _ _).symm.trans H; with_reducible exact H2_) | with_reducible exact H | (rw [hy198]; exact H) | exact H
      have Ny198 := Aside0.mk hy198
      clear hy198
      replace H := Option.bind_eq_some_iff.mp H
      obtain ⟨t201, A1520, H⟩ := H
      replace H : (some (t201 == 0)) = some r := H
      have A152 := Aside0.mk A1520
      clear A1520
      obtain rfl := Option.some.inj H
      obtain ⟨Ao153, co153, eo153⟩ := Kd.N_slice HO_9.out
      subst eo153
      have hnb154 := NB105_106.out
      have hnc154 := NB106_105.out
      have hnb155 := NB105_107.out
      have hnc155 := NB107_105.out
      have hnb156 := NB105_108.out
      have hnc156 := NB108_105.out
      have hcz157_0 : wr.cell? ⟨gb105, 0, none⟩ = some (.slice Ao6 y102.length co6) := (blk_cell BK105.out 0).trans rfl
      have hcz157_1 : wr.cell? ⟨gb105, 1, none⟩ = some (.int .i64 2) := (blk_cell BK105.out 1).trans rfl
      have hfz157_0 := blk_frozen BK105.out 0
      have hfz157_1 := blk_frozen BK105.out 1
      have hnb158 := NB108_106.out
      have hnc158 := NB106_108.out
      have hnb159 := NB108_107.out
      have hnc159 := NB107_108.out
      have hcz160_0 : wr.cell? ⟨gb108, 0, none⟩ = some (.int .i64 4) := (blk_cell BK108.out 0).trans rfl
      have hcz160_1 : wr.cell? ⟨gb108, 1, none⟩ = some (.int .i64 0) := (blk_cell BK108.out 1).trans rfl
      have hcz160_2 : wr.cell? ⟨gb108, 2, none⟩ = some (.string (⟨#[98]⟩ : ByteArray)) := (blk_cell BK108.out 2).trans rfl
      have hfz160_0 := blk_frozen BK108.out 0
      have hfz160_1 := blk_frozen BK108.out 1
      have hfz160_2 := blk_frozen BK108.out 2
      go_wp2_with (first | ((with_reducible refine gate_dst (N := 142) rfl ?_); refine Kd.R_lit k28 _ 28 ?hg (N := 142) ?hd (xs := ([(⟨(⟨#[105]⟩ : ByteArray), 7, (⟨4, 0, (⟨#[98]⟩ : ByteArray)⟩ : S26), false, false⟩ : S28)] : List (S28))) (inner := [.string (⟨#[105]⟩ : ByteArray), .int .i64 7, .int .i64 4, .int .i64 0, .string (⟨#[98]⟩ : ByteArray), .bool false, .bool false]) (ok := fun _ => True) (okp := fun _ => True) ?hr ?hp (fun _ hk => hk) trivial (Below.refl _ _) (Nat.le_refl _) (by simp) ?_; (case hd => rfl); (case hg => rfl); (case hr => first | (go_simp; done) | (go_simp; rfl)); (case hp => exact (Reps.c7 (show Kd.M k28 _ _ _ (⟨(⟨#[105]⟩ : ByteArray), 7, (⟨4, 0, (⟨#[98]⟩ : ByteArray)⟩ : S26), false, false⟩ : S28) [.string (⟨#[105]⟩ : ByteArray), .int .i64 7, .int .i64 4, .int .i64 0, .string (⟨#[98]⟩ : ByteArray), .bool false, .bool false] from (k28_mkM _ _ _ (⟨(⟨#[105]⟩ : ByteArray), 7, (⟨4, 0, (⟨#[98]⟩ : ByteArray)⟩ : S26), false, false⟩ : S28) )) (Reps.none _ _))); intro v199 w161 ho162 hb hg_ hnew_; clear hg_ hnew_; (first | rw [← Ny198.out] at ho162 | (simp only [Int.reduceToNat] at ho162; rw [← Ny198.out] at ho162)); have n0_ := Aside0.mk (Kd.N_elder' (by (with_reducible repeat (first | apply Kd.N_alloc | apply Kd.N_drewN | apply Kd.N_drew)); exact HO_9.out) (Kd.R_base ho162) hb); have n1_ := qR HO_10 hb; have n2_ := qR HO_106000 hb; have n3_ := Aside0.mk (Kd.R_lower ho162 (qZ HB)); have n4_ := qB BK105 hb; have n5_ := qB BK106 hb; have n6_ := qB BK107 hb; have n7_ := qB BK108 hb; have n8_ := qS HB hb; clear HO_9; clear HO_10; clear HO_106000; clear BK105; clear BK106; clear BK107; clear BK108; clear HB; have HO_9 := n0_; have HO_10 := n1_; have HO_106000 := n2_; have HO200 := n3_; have BK105 := n4_; have BK106 := n5_; have BK107 := n6_; have BK108 := n7_; have HB := n8_; clear n0_ n1_ n2_ n3_ n4_ n5_ n6_ n7_ n8_; clear hb ho162; obtain ⟨Ao163, co163, eo163⟩ := Kd.R_slice HO200.out; subst eo163) | ((with_reducible refine gate_callee (f := 13) rfl ?_); refine goesL_ (some 143) rfl rfl Try.func13 (by kernel_rfl) rfl #[.agg #[.slice Ao6 y102.length co6, .int .i64 2], .slice Ao163 y198.length co163] rfl (by (try simp only [List.map_toArray, List.map_cons, List.map_nil]); first | done | rfl | (simp only [List.length_drop, List.length_take]; rfl)) ?_; (with_reducible refine (pred_Check.calls _ _ y102 2 _ _ y198 t201 _ ?side1 ?side2 ?side3 ?side4 A152.out).mono ?_); (case side1 => repeat (first | exact (Kd.R_reads' HO_106000.out).2.2 | (with_reducible refine Kd.C_alloc ?_ _) | (with_reducible refine Kd.C_drewN ?_ _) | (with_reducible refine Kd.C_drew ?_))); (case side2 => exact (Kd.R_reads' HO_106000.out).2.1); (case side3 => repeat (first | exact (Kd.R_reads' HO200.out).2.2 | (with_reducible refine Kd.C_alloc ?_ _) | (with_reducible refine Kd.C_drewN ?_ _) | (with_reducible refine Kd.C_drew ?_))); (case side4 => exact (Kd.R_reads' HO200.out).2.1); rintro e w164 ⟨rfl, hb⟩; refine ⟨_, rfl, ?_⟩; have n0_ := Aside0.mk (Kd.N_below (by (with_reducible repeat (first | apply Kd.N_alloc | apply Kd.N_drewN | apply Kd.N_drew)); exact HO_9.out) hb); have n1_ := qR HO_10 hb; have n2_ := qR HO_106000 hb; have n3_ := qR HO200 hb; have n4_ := qB BK105 hb; have n5_ := qB BK106 hb; have n6_ := qB BK107 hb; have n7_ := qB BK108 hb; have n8_ := qS HB hb; clear HO_9; clear HO_10; clear HO_106000; clear HO200; clear BK105; clear BK106; clear BK107; clear BK108; clear HB; have HO_9 := n0_; have HO_10 := n1_; have HO_106000 := n2_; have HO200 := n3_; have BK105 := n4_; have BK106 := n5_; have BK107 := n6_; have BK108 := n7_; have HB := n8_; clear n0_ n1_ n2_ n3_ n4_ n5_ n6_ n7_ n8_; (try clear hb); (try clear hb2); (try clear hk); (try clear hi)))
      go_ret
      exact ⟨by first | rfl | (simp [errW_none, errW_some] <;> rfl) | (simp [*, errW_none, errW_some] <;> rfl), by repeat (first | (with_reducible first | exact HB.out | apply below_alloc | apply pw_below_drewN | apply below_drew1 | refine below_set ?_ GE105.out | refine below_set ?_ GE106.out | refine below_set ?_ GE107.out | refine below_set ?_ GE108.out) | exact HB.out)⟩
end Go.Proofs.Ytiicfblccklfhaa.PPG2
end
section
namespace Go.Proofs.Ytiicfblccklfhaa.PPG2
open Go.RowKit Go.Proofs.YtiicfblccklfhaaW.PrintWords Go.Proofs.YtiicfblccklfhaaW.PrintLast Go.Proofs.YtiicfblccklfhaaW.PrintMore
attribute [local go_sem] max2_int min2_int max_two min_two max_three min_three max_four min_four
open Go.Proofs.Ytiicfblccklfhaa.Ext Go.Proofs.Ytiicfblccklfhaa.PK Go.Proofs.Ytiicfblccklfhaa.PPF
set_option linter.unusedVariables false
set_option linter.unusedSimpArgs false
set_option maxHeartbeats 80000000 in
set_option maxRecDepth 100000 in
theorem rabbetlaw23_PredForms.calls_r3_r0 : rabbetlaw23_PredForms.calls_r3_c.1 := by
 intro k r w hu64 hu33 hu26 hu28 A1 y102 Ny102 y109 Ny109 y112 Ny112 y115 Ny115 y118 Ny118 y121 Ny121 y124 Ny124 y127 Ny127 y130 Ny130 y133 Ny133 y136 Ny136 y139 Ny139 y142 Ny142 y145 Ny145 y148 Ny148 y151 Ny151 y154 Ny154 y157 Ny157 xi0_ w3 w4 Ao6 co6 gb105 w7 GW105 GE105 gb106 w9 GW106 GE106 NB105_106 NB106_105 gb107 w10 GW107 GE107 NB105_107 NB107_105 NB106_107 NB107_106 hnb11 hnc11 hnb12 hnc12 hnb14 hnc14 gb108 w16 GW108 GE108 NB105_108 NB108_105 NB106_108 NB108_106 NB107_108 NB108_107 hnb17 hnc17 hnb18 hnc18 hnb19 hnc19 v110 w22 w25 w28 w31 w34 w36 w38 w40 w43 w45 w49 w53 w57 w62 w65 Ao67 co67 Ao68 co68 Ao69 co69 Ao70 co70 Ao71 co71 Ao72 co72 Ao73 co73 Ao74 co74 Ao75 co75 Ao76 co76 Ao77 co77 Ao78 co78 Ao79 co79 Ao80 co80 w81 v158 w83 HO104 HO111 HO159 xi1_ xi2_ xi3_ xi4_ xi5_ xi6_ wr u0 u74 u75 u76 u77 u78 u79 u80 u81 u82 u83 u84 u85 u86 u87 u88 u89 u90 u91 u92 u93 u94 u95 u96 u97 u98 u99 u100 xi8_ xi9_ x8_1 k1 xi11_ HK1 c85b0 c107b0 c107b1 y165 Ny165 y168 Ny168 y171 Ny171 y174 Ny174 y177 Ny177 y180 Ny180 y183 Ny183 y186 Ny186 y189 Ny189 y192 Ny192 H' Ao108 co108 HO156 xi10_ xie0_ xie1_ xie2_ xie3_ hHeld HT_ HW_ w109 b a w' v166 v169 v172 v175 v178 v181 v184 v187 v190 m20_ ha Q_HO_106000 Q_HO_5 Q_HO_6 Q_HO_7 Q_BK105 Q_BK106 Q_BK107 Q_BK108 Q_HB Q_HO167 Q_HO170 Q_HO173 Q_HO176 Q_HO179 Q_HO182 Q_HO185 Q_HO188 Q_HO191 Q_X20_ hb_ hon hoff
 refine ⟨_, rfl, fun K hK => ?_⟩
 replace ha := Aside0.mk ha
 have HO_106000 := Aside0.mk Q_HO_106000
 have HO_5 := Aside0.mk Q_HO_5
 have HO_6 := Aside0.mk Q_HO_6
 have HO_7 := Aside0.mk Q_HO_7
 have BK105 := Aside0.mk Q_BK105
 have BK106 := Aside0.mk Q_BK106
 have BK107 := Aside0.mk Q_BK107
 have BK108 := Aside0.mk Q_BK108
 have HB := Aside0.mk Q_HB
 refine Kd.R_make_step k28 _ 28 (by rfl) (N := 101) rfl 23 _ _ rfl 9 rfl rfl Try.underlying23 (.agg #[(.string ⟨#[]⟩), (.int .i64 0), (.int .i64 0), (.int .i64 0), (.string ⟨#[]⟩), (.bool false), (.bool false)]) 64 info28 rfl (by decide) (by omega) z28 (ok := fun _ => True) (okp := fun _ => True) (k28_mkM _ _ _ z28 ) (fun _ hk => hk) trivial (by omega) (by omega) (Below.refl _ _) (Nat.le_refl _) ?_
 intro v166 w110 ho111 hb hg_ hnew_
 clear hg_ hnew_
 (first | rw [← Ny165.out] at ho111 | (simp only [Int.reduceToNat] at ho111; rw [← Ny165.out] at ho111))
 have n0_ := qR HO_5 hb
 have n1_ := Aside0.mk (Kd.N_elder' (by (with_reducible repeat (first | apply Kd.N_alloc | apply Kd.N_drewN | apply Kd.N_drew)); exact HO_6.out) (Kd.R_base ho111) hb)
 have n2_ := qR HO_7 hb
 have n3_ := qR HO_106000 hb
 have n4_ := Aside0.mk (Kd.R_lower ho111 (qZ HB))
 have n5_ := qB BK105 hb
 have n6_ := qB BK106 hb
 have n7_ := qB BK107 hb
 have n8_ := qB BK108 hb
 have n9_ := qS HB hb
 have z_HO170 := fun (h0_ : b 2 = true) (h1_ : b 19 = false) => (show Kd.R k28 28 w110 w.heap.size (fun _ => True) v169 y168 from by first | exact (Kd.R_elder' (by (with_reducible repeat (first | apply Kd.R_alloc | apply Kd.R_drewN | apply Kd.R_drew)); exact (Q_HO170 h0_ h1_)) (Kd.R_base ho111) hb) | exact Kd.R_mono (Kd.R_elder' (by (with_reducible repeat (first | apply Kd.R_alloc | apply Kd.R_drewN | apply Kd.R_drew)); exact (Q_HO170 h0_ h1_)) (Kd.R_base ho111) hb) (fun _ h_ => by first | trivial | exact h_ | exact h_.1))
 have z_HO173 := fun (h0_ : b 4 = true) (h1_ : b 19 = false) => (show Kd.R k28 28 w110 w.heap.size (fun _ => True) v172 y171 from by first | exact (Kd.R_elder' (by (with_reducible repeat (first | apply Kd.R_alloc | apply Kd.R_drewN | apply Kd.R_drew)); exact (Q_HO173 h0_ h1_)) (Kd.R_base ho111) hb) | exact Kd.R_mono (Kd.R_elder' (by (with_reducible repeat (first | apply Kd.R_alloc | apply Kd.R_drewN | apply Kd.R_drew)); exact (Q_HO173 h0_ h1_)) (Kd.R_base ho111) hb) (fun _ h_ => by first | trivial | exact h_ | exact h_.1))
 have z_HO176 := fun (h0_ : b 7 = true) (h1_ : b 19 = false) => (show Kd.R k28 28 w110 w.heap.size (fun _ => True) v175 y174 from by first | exact (Kd.R_elder' (by (with_reducible repeat (first | apply Kd.R_alloc | apply Kd.R_drewN | apply Kd.R_drew)); exact (Q_HO176 h0_ h1_)) (Kd.R_base ho111) hb) | exact Kd.R_mono (Kd.R_elder' (by (with_reducible repeat (first | apply Kd.R_alloc | apply Kd.R_drewN | apply Kd.R_drew)); exact (Q_HO176 h0_ h1_)) (Kd.R_base ho111) hb) (fun _ h_ => by first | trivial | exact h_ | exact h_.1))
 have z_HO179 := fun (h0_ : b 9 = true) (h1_ : b 19 = false) => (show Kd.R k28 28 w110 w.heap.size (fun _ => True) v178 y177 from by first | exact (Kd.R_elder' (by (with_reducible repeat (first | apply Kd.R_alloc | apply Kd.R_drewN | apply Kd.R_drew)); exact (Q_HO179 h0_ h1_)) (Kd.R_base ho111) hb) | exact Kd.R_mono (Kd.R_elder' (by (with_reducible repeat (first | apply Kd.R_alloc | apply Kd.R_drewN | apply Kd.R_drew)); exact (Q_HO179 h0_ h1_)) (Kd.R_base ho111) hb) (fun _ h_ => by first | trivial | exact h_ | exact h_.1))
 have z_HO182 := fun (h0_ : b 12 = true) (h1_ : b 19 = false) => (show Kd.R k28 28 w110 w.heap.size (fun _ => True) v181 y180 from by first | exact (Kd.R_elder' (by (with_reducible repeat (first | apply Kd.R_alloc | apply Kd.R_drewN | apply Kd.R_drew)); exact (Q_HO182 h0_ h1_)) (Kd.R_base ho111) hb) | exact Kd.R_mono (Kd.R_elder' (by (with_reducible repeat (first | apply Kd.R_alloc | apply Kd.R_drewN | apply Kd.R_drew)); exact (Q_HO182 h0_ h1_)) (Kd.R_base ho111) hb) (fun _ h_ => by first | trivial | exact h_ | exact h_.1))
 have z_HO185 := fun (h0_ : b 15 = true) (h1_ : b 19 = false) => (show Kd.R k28 28 w110 w.heap.size (fun _ => True) v184 y183 from by first | exact (Kd.R_elder' (by (with_reducible repeat (first | apply Kd.R_alloc | apply Kd.R_drewN | apply Kd.R_drew)); exact (Q_HO185 h0_ h1_)) (Kd.R_base ho111) hb) | exact Kd.R_mono (Kd.R_elder' (by (with_reducible repeat (first | apply Kd.R_alloc | apply Kd.R_drewN | apply Kd.R_drew)); exact (Q_HO185 h0_ h1_)) (Kd.R_base ho111) hb) (fun _ h_ => by first | trivial | exact h_ | exact h_.1))
 have z_HO188 := fun (h0_ : b 18 = true) (h1_ : b 19 = false) => (show Kd.R k28 28 w110 w.heap.size (fun _ => True) v187 y186 from by first | exact (Kd.R_elder' (by (with_reducible repeat (first | apply Kd.R_alloc | apply Kd.R_drewN | apply Kd.R_drew)); exact (Q_HO188 h0_ h1_)) (Kd.R_base ho111) hb) | exact Kd.R_mono (Kd.R_elder' (by (with_reducible repeat (first | apply Kd.R_alloc | apply Kd.R_drewN | apply Kd.R_drew)); exact (Q_HO188 h0_ h1_)) (Kd.R_base ho111) hb) (fun _ h_ => by first | trivial | exact h_ | exact h_.1))
 clear HO_5
 clear HO_6
 clear HO_7
 clear HO_106000
 clear BK105
 clear BK106
 clear BK107
 clear BK108
 clear HB
 have HO_5 := n0_
 have HO_6 := n1_
 have HO_7 := n2_
 have HO_106000 := n3_
 have HO167 := n4_
 have BK105 := n5_
 have BK106 := n6_
 have BK107 := n7_
 have BK108 := n8_
 have HB := n9_
 clear n0_ n1_ n2_ n3_ n4_ n5_ n6_ n7_ n8_ n9_
 clear hb ho111
 refine hK.out _ _ ⟨v166, v169, v172, v175, v178, v181, v184, v187, v190, m20_, (by rw [ha.out]; exact putSel_upk 0 hb_ rfl rfl rfl), (by (with_reducible repeat (first | apply Kd.R_alloc | apply Kd.R_drewN | apply Kd.R_drew)); exact HO_106000.out), (by (with_reducible repeat (first | apply Kd.R_alloc | apply Kd.R_drewN | apply Kd.R_drew)); exact HO_5.out), (by (with_reducible repeat (first | apply Kd.N_alloc | apply Kd.N_drewN | apply Kd.N_drew)); exact Kd.N_mono HO_6.out (fun _ hk => hk.1)), (by (with_reducible repeat (first | apply Kd.R_alloc | apply Kd.R_drewN | apply Kd.R_drew)); exact HO_7.out), (by (with_reducible repeat (first | refine blk_drewN ?_ _ | refine blk_drew ?_ | refine blk_alloc ?_ _)); exact BK105.out), (by (with_reducible repeat (first | refine blk_drewN ?_ _ | refine blk_drew ?_ | refine blk_alloc ?_ _)); exact BK106.out), (by (with_reducible repeat (first | refine blk_drewN ?_ _ | refine blk_drew ?_ | refine blk_alloc ?_ _)); exact BK107.out), (by (with_reducible repeat (first | refine blk_drewN ?_ _ | refine blk_drew ?_ | refine blk_alloc ?_ _)); exact BK108.out), (by repeat (first | (with_reducible first | exact HB.out | apply below_alloc | apply pw_below_drewN | apply below_drew1 | refine below_set ?_ GE105.out | refine below_set ?_ GE106.out | refine below_set ?_ GE107.out | refine below_set ?_ GE108.out) | exact HB.out)), fun _ _ => (by (with_reducible repeat (first | apply Kd.R_alloc | apply Kd.R_drewN | apply Kd.R_drew)); exact HO167.out), z_HO170, z_HO173, z_HO176, z_HO179, z_HO182, z_HO185, z_HO188, fun h0_ => absurd ((hoff 19 (by kernel_rfl)).symm.trans h0_) (by decide), fun h0_ => absurd ((hoff 20 (by kernel_rfl)).symm.trans h0_) (by decide)⟩
end Go.Proofs.Ytiicfblccklfhaa.PPG2
end
section
namespace Go.Proofs.Ytiicfblccklfhaa.PPG2
open Go.RowKit Go.Proofs.YtiicfblccklfhaaW.PrintWords Go.Proofs.YtiicfblccklfhaaW.PrintLast Go.Proofs.YtiicfblccklfhaaW.PrintMore
attribute [local go_sem] max2_int min2_int max_two min_two max_three min_three max_four min_four
open Go.Proofs.Ytiicfblccklfhaa.Ext Go.Proofs.Ytiicfblccklfhaa.PK Go.Proofs.Ytiicfblccklfhaa.PPF
set_option linter.unusedVariables false
set_option linter.unusedSimpArgs false
set_option maxHeartbeats 80000000 in
set_option maxRecDepth 100000 in
theorem rabbetlaw23_PredForms.calls_r3_r1 : rabbetlaw23_PredForms.calls_r3_c.2.1 := by
 intro k r w hu64 hu33 hu26 hu28 A1 y102 Ny102 y109 Ny109 y112 Ny112 y115 Ny115 y118 Ny118 y121 Ny121 y124 Ny124 y127 Ny127 y130 Ny130 y133 Ny133 y136 Ny136 y139 Ny139 y142 Ny142 y145 Ny145 y148 Ny148 y151 Ny151 y154 Ny154 y157 Ny157 xi0_ w3 w4 Ao6 co6 gb105 w7 GW105 GE105 gb106 w9 GW106 GE106 NB105_106 NB106_105 gb107 w10 GW107 GE107 NB105_107 NB107_105 NB106_107 NB107_106 hnb11 hnc11 hnb12 hnc12 hnb14 hnc14 gb108 w16 GW108 GE108 NB105_108 NB108_105 NB106_108 NB108_106 NB107_108 NB108_107 hnb17 hnc17 hnb18 hnc18 hnb19 hnc19 v110 w22 w25 w28 w31 w34 w36 w38 w40 w43 w45 w49 w53 w57 w62 w65 Ao67 co67 Ao68 co68 Ao69 co69 Ao70 co70 Ao71 co71 Ao72 co72 Ao73 co73 Ao74 co74 Ao75 co75 Ao76 co76 Ao77 co77 Ao78 co78 Ao79 co79 Ao80 co80 w81 v158 w83 HO104 HO111 HO159 xi1_ xi2_ xi3_ xi4_ xi5_ xi6_ wr u0 u74 u75 u76 u77 u78 u79 u80 u81 u82 u83 u84 u85 u86 u87 u88 u89 u90 u91 u92 u93 u94 u95 u96 u97 u98 u99 u100 xi8_ xi9_ x8_1 k1 xi11_ HK1 c85b0 c107b0 c107b1 y165 Ny165 y168 Ny168 y171 Ny171 y174 Ny174 y177 Ny177 y180 Ny180 y183 Ny183 y186 Ny186 y189 Ny189 y192 Ny192 H' Ao108 co108 HO156 xi10_ xie0_ xie1_ xie2_ xie3_ hHeld HT_ HW_ w109 b a w' v166 v169 v172 v175 v178 v181 v184 v187 v190 m20_ ha Q_HO_106000 Q_HO_5 Q_HO_6 Q_HO_7 Q_BK105 Q_BK106 Q_BK107 Q_BK108 Q_HB Q_HO167 Q_HO170 Q_HO173 Q_HO176 Q_HO179 Q_HO182 Q_HO185 Q_HO188 Q_HO191 Q_X20_ hb_ hon hoff
 refine ⟨_, rfl, fun K hK => ?_⟩
 have e102 : a.tmps[102]? = some (.agg #[.string (⟨#[105]⟩ : ByteArray), .int .i64 0, .int .i64 0, .int .i64 0, .string (⟨#[]⟩ : ByteArray), .bool false, .bool false]) := by rw [ha]; exact putSel_on (e := (1, 102, .agg #[.string (⟨#[105]⟩ : ByteArray), .int .i64 0, .int .i64 0, .int .i64 0, .string (⟨#[]⟩ : ByteArray), .bool false, .bool false])) 1 rfl rfl (hon 1 (by kernel_rfl)) rfl
 replace ha := Aside0.mk ha
 have HO_106000 := Aside0.mk Q_HO_106000
 have HO_5 := Aside0.mk Q_HO_5
 have HO_6 := Aside0.mk Q_HO_6
 have HO_7 := Aside0.mk Q_HO_7
 have BK105 := Aside0.mk Q_BK105
 have BK106 := Aside0.mk Q_BK106
 have BK107 := Aside0.mk Q_BK107
 have BK108 := Aside0.mk Q_BK108
 have HB := Aside0.mk Q_HB
 refine Kd.R_lit_step k28 _ 28 ?hg (N := 103) ?hd (xs := ([(⟨(⟨#[105]⟩ : ByteArray), 0, (⟨0, 0, (⟨#[]⟩ : ByteArray)⟩ : S26), false, false⟩ : S28)] : List (S28))) (inner := [.string (⟨#[105]⟩ : ByteArray), .int .i64 0, .int .i64 0, .int .i64 0, .string (⟨#[]⟩ : ByteArray), .bool false, .bool false]) (ok := fun _ => True) (okp := fun _ => True) ?hr ?hp (fun _ hk => hk) trivial (Below.refl _ _) (Nat.le_refl _) (by simp) ?_; (case hd => rfl); (case hg => rfl); (case hr => first | (go_simp; done) | (go_simp; rfl)); (case hp => exact (Reps.c7 (show Kd.M k28 _ _ _ (⟨(⟨#[105]⟩ : ByteArray), 0, (⟨0, 0, (⟨#[]⟩ : ByteArray)⟩ : S26), false, false⟩ : S28) [.string (⟨#[105]⟩ : ByteArray), .int .i64 0, .int .i64 0, .int .i64 0, .string (⟨#[]⟩ : ByteArray), .bool false, .bool false] from (k28_mkM _ _ _ (⟨(⟨#[105]⟩ : ByteArray), 0, (⟨0, 0, (⟨#[]⟩ : ByteArray)⟩ : S26), false, false⟩ : S28) )) (Reps.none _ _)))
 intro v169 w110 ho111 hb hg_ hnew_
 clear hg_ hnew_
 (first | rw [← Ny168.out] at ho111 | (simp only [Int.reduceToNat] at ho111; rw [← Ny168.out] at ho111))
 have n0_ := qR HO_5 hb
 have n1_ := Aside0.mk (Kd.N_elder' (by (with_reducible repeat (first | apply Kd.N_alloc | apply Kd.N_drewN | apply Kd.N_drew)); exact HO_6.out) (Kd.R_base ho111) hb)
 have n2_ := qR HO_7 hb
 have n3_ := qR HO_106000 hb
 have n4_ := Aside0.mk (Kd.R_lower ho111 (qZ HB))
 have n5_ := qB BK105 hb
 have n6_ := qB BK106 hb
 have n7_ := qB BK107 hb
 have n8_ := qB BK108 hb
 have n9_ := qS HB hb
 have z_HO167 := fun (h0_ : b 0 = true) (h1_ : b 19 = false) => (show Kd.R k28 28 w110 w.heap.size (fun _ => True) v166 y165 from by first | exact (Kd.R_elder' (by (with_reducible repeat (first | apply Kd.R_alloc | apply Kd.R_drewN | apply Kd.R_drew)); exact (Q_HO167 h0_ h1_)) (Kd.R_base ho111) hb) | exact Kd.R_mono (Kd.R_elder' (by (with_reducible repeat (first | apply Kd.R_alloc | apply Kd.R_drewN | apply Kd.R_drew)); exact (Q_HO167 h0_ h1_)) (Kd.R_base ho111) hb) (fun _ h_ => by first | trivial | exact h_ | exact h_.1))
 have z_HO173 := fun (h0_ : b 4 = true) (h1_ : b 19 = false) => (show Kd.R k28 28 w110 w.heap.size (fun _ => True) v172 y171 from by first | exact (Kd.R_elder' (by (with_reducible repeat (first | apply Kd.R_alloc | apply Kd.R_drewN | apply Kd.R_drew)); exact (Q_HO173 h0_ h1_)) (Kd.R_base ho111) hb) | exact Kd.R_mono (Kd.R_elder' (by (with_reducible repeat (first | apply Kd.R_alloc | apply Kd.R_drewN | apply Kd.R_drew)); exact (Q_HO173 h0_ h1_)) (Kd.R_base ho111) hb) (fun _ h_ => by first | trivial | exact h_ | exact h_.1))
 have z_HO176 := fun (h0_ : b 7 = true) (h1_ : b 19 = false) => (show Kd.R k28 28 w110 w.heap.size (fun _ => True) v175 y174 from by first | exact (Kd.R_elder' (by (with_reducible repeat (first | apply Kd.R_alloc | apply Kd.R_drewN | apply Kd.R_drew)); exact (Q_HO176 h0_ h1_)) (Kd.R_base ho111) hb) | exact Kd.R_mono (Kd.R_elder' (by (with_reducible repeat (first | apply Kd.R_alloc | apply Kd.R_drewN | apply Kd.R_drew)); exact (Q_HO176 h0_ h1_)) (Kd.R_base ho111) hb) (fun _ h_ => by first | trivial | exact h_ | exact h_.1))
 have z_HO179 := fun (h0_ : b 9 = true) (h1_ : b 19 = false) => (show Kd.R k28 28 w110 w.heap.size (fun _ => True) v178 y177 from by first | exact (Kd.R_elder' (by (with_reducible repeat (first | apply Kd.R_alloc | apply Kd.R_drewN | apply Kd.R_drew)); exact (Q_HO179 h0_ h1_)) (Kd.R_base ho111) hb) | exact Kd.R_mono (Kd.R_elder' (by (with_reducible repeat (first | apply Kd.R_alloc | apply Kd.R_drewN | apply Kd.R_drew)); exact (Q_HO179 h0_ h1_)) (Kd.R_base ho111) hb) (fun _ h_ => by first | trivial | exact h_ | exact h_.1))
 have z_HO182 := fun (h0_ : b 12 = true) (h1_ : b 19 = false) => (show Kd.R k28 28 w110 w.heap.size (fun _ => True) v181 y180 from by first | exact (Kd.R_elder' (by (with_reducible repeat (first | apply Kd.R_alloc | apply Kd.R_drewN | apply Kd.R_drew)); exact (Q_HO182 h0_ h1_)) (Kd.R_base ho111) hb) | exact Kd.R_mono (Kd.R_elder' (by (with_reducible repeat (first | apply Kd.R_alloc | apply Kd.R_drewN | apply Kd.R_drew)); exact (Q_HO182 h0_ h1_)) (Kd.R_base ho111) hb) (fun _ h_ => by first | trivial | exact h_ | exact h_.1))
 have z_HO185 := fun (h0_ : b 15 = true) (h1_ : b 19 = false) => (show Kd.R k28 28 w110 w.heap.size (fun _ => True) v184 y183 from by first | exact (Kd.R_elder' (by (with_reducible repeat (first | apply Kd.R_alloc | apply Kd.R_drewN | apply Kd.R_drew)); exact (Q_HO185 h0_ h1_)) (Kd.R_base ho111) hb) | exact Kd.R_mono (Kd.R_elder' (by (with_reducible repeat (first | apply Kd.R_alloc | apply Kd.R_drewN | apply Kd.R_drew)); exact (Q_HO185 h0_ h1_)) (Kd.R_base ho111) hb) (fun _ h_ => by first | trivial | exact h_ | exact h_.1))
 have z_HO188 := fun (h0_ : b 18 = true) (h1_ : b 19 = false) => (show Kd.R k28 28 w110 w.heap.size (fun _ => True) v187 y186 from by first | exact (Kd.R_elder' (by (with_reducible repeat (first | apply Kd.R_alloc | apply Kd.R_drewN | apply Kd.R_drew)); exact (Q_HO188 h0_ h1_)) (Kd.R_base ho111) hb) | exact Kd.R_mono (Kd.R_elder' (by (with_reducible repeat (first | apply Kd.R_alloc | apply Kd.R_drewN | apply Kd.R_drew)); exact (Q_HO188 h0_ h1_)) (Kd.R_base ho111) hb) (fun _ h_ => by first | trivial | exact h_ | exact h_.1))
 clear HO_5
 clear HO_6
 clear HO_7
 clear HO_106000
 clear BK105
 clear BK106
 clear BK107
 clear BK108
 clear HB
 have HO_5 := n0_
 have HO_6 := n1_
 have HO_7 := n2_
 have HO_106000 := n3_
 have HO170 := n4_
 have BK105 := n5_
 have BK106 := n6_
 have BK107 := n7_
 have BK108 := n8_
 have HB := n9_
 clear n0_ n1_ n2_ n3_ n4_ n5_ n6_ n7_ n8_ n9_
 clear hb ho111
 refine hK.out _ _ ⟨v166, v169, v172, v175, v178, v181, v184, v187, v190, m20_, (by rw [ha.out]; exact putSel_upk 2 hb_ rfl rfl rfl), (by (with_reducible repeat (first | apply Kd.R_alloc | apply Kd.R_drewN | apply Kd.R_drew)); exact HO_106000.out), (by (with_reducible repeat (first | apply Kd.R_alloc | apply Kd.R_drewN | apply Kd.R_drew)); exact HO_5.out), (by (with_reducible repeat (first | apply Kd.N_alloc | apply Kd.N_drewN | apply Kd.N_drew)); exact Kd.N_mono HO_6.out (fun _ hk => hk.1)), (by (with_reducible repeat (first | apply Kd.R_alloc | apply Kd.R_drewN | apply Kd.R_drew)); exact HO_7.out), (by (with_reducible repeat (first | refine blk_drewN ?_ _ | refine blk_drew ?_ | refine blk_alloc ?_ _)); exact BK105.out), (by (with_reducible repeat (first | refine blk_drewN ?_ _ | refine blk_drew ?_ | refine blk_alloc ?_ _)); exact BK106.out), (by (with_reducible repeat (first | refine blk_drewN ?_ _ | refine blk_drew ?_ | refine blk_alloc ?_ _)); exact BK107.out), (by (with_reducible repeat (first | refine blk_drewN ?_ _ | refine blk_drew ?_ | refine blk_alloc ?_ _)); exact BK108.out), (by repeat (first | (with_reducible first | exact HB.out | apply below_alloc | apply pw_below_drewN | apply below_drew1 | refine below_set ?_ GE105.out | refine below_set ?_ GE106.out | refine below_set ?_ GE107.out | refine below_set ?_ GE108.out) | exact HB.out)), z_HO167, fun _ _ => (by (with_reducible repeat (first | apply Kd.R_alloc | apply Kd.R_drewN | apply Kd.R_drew)); exact HO170.out), z_HO173, z_HO176, z_HO179, z_HO182, z_HO185, z_HO188, fun h0_ => absurd ((hoff 19 (by kernel_rfl)).symm.trans h0_) (by decide), fun h0_ => absurd ((hoff 20 (by kernel_rfl)).symm.trans h0_) (by decide)⟩
end Go.Proofs.Ytiicfblccklfhaa.PPG2
end
section
namespace Go.Proofs.Ytiicfblccklfhaa.PPG2
open Go.RowKit Go.Proofs.YtiicfblccklfhaaW.PrintWords Go.Proofs.YtiicfblccklfhaaW.PrintLast Go.Proofs.YtiicfblccklfhaaW.PrintMore
attribute [local go_sem] max2_int min2_int max_two min_two max_three min_three max_four min_four
open Go.Proofs.Ytiicfblccklfhaa.Ext Go.Proofs.Ytiicfblccklfhaa.PK Go.Proofs.Ytiicfblccklfhaa.PPF
set_option linter.unusedVariables false
set_option linter.unusedSimpArgs false
set_option maxHeartbeats 80000000 in
set_option maxRecDepth 100000 in
theorem rabbetlaw23_PredForms.calls_r3_r2 : rabbetlaw23_PredForms.calls_r3_c.2.2.1 := by
 intro k r w hu64 hu33 hu26 hu28 A1 y102 Ny102 y109 Ny109 y112 Ny112 y115 Ny115 y118 Ny118 y121 Ny121 y124 Ny124 y127 Ny127 y130 Ny130 y133 Ny133 y136 Ny136 y139 Ny139 y142 Ny142 y145 Ny145 y148 Ny148 y151 Ny151 y154 Ny154 y157 Ny157 xi0_ w3 w4 Ao6 co6 gb105 w7 GW105 GE105 gb106 w9 GW106 GE106 NB105_106 NB106_105 gb107 w10 GW107 GE107 NB105_107 NB107_105 NB106_107 NB107_106 hnb11 hnc11 hnb12 hnc12 hnb14 hnc14 gb108 w16 GW108 GE108 NB105_108 NB108_105 NB106_108 NB108_106 NB107_108 NB108_107 hnb17 hnc17 hnb18 hnc18 hnb19 hnc19 v110 w22 w25 w28 w31 w34 w36 w38 w40 w43 w45 w49 w53 w57 w62 w65 Ao67 co67 Ao68 co68 Ao69 co69 Ao70 co70 Ao71 co71 Ao72 co72 Ao73 co73 Ao74 co74 Ao75 co75 Ao76 co76 Ao77 co77 Ao78 co78 Ao79 co79 Ao80 co80 w81 v158 w83 HO104 HO111 HO159 xi1_ xi2_ xi3_ xi4_ xi5_ xi6_ wr u0 u74 u75 u76 u77 u78 u79 u80 u81 u82 u83 u84 u85 u86 u87 u88 u89 u90 u91 u92 u93 u94 u95 u96 u97 u98 u99 u100 xi8_ xi9_ x8_1 k1 xi11_ HK1 c85b0 c107b0 c107b1 y165 Ny165 y168 Ny168 y171 Ny171 y174 Ny174 y177 Ny177 y180 Ny180 y183 Ny183 y186 Ny186 y189 Ny189 y192 Ny192 H' Ao108 co108 HO156 xi10_ xie0_ xie1_ xie2_ xie3_ hHeld HT_ HW_ w109 b a w' v166 v169 v172 v175 v178 v181 v184 v187 v190 m20_ ha Q_HO_106000 Q_HO_5 Q_HO_6 Q_HO_7 Q_BK105 Q_BK106 Q_BK107 Q_BK108 Q_HB Q_HO167 Q_HO170 Q_HO173 Q_HO176 Q_HO179 Q_HO182 Q_HO185 Q_HO188 Q_HO191 Q_X20_ hb_ hon hoff
 refine ⟨_, rfl, fun K hK => ?_⟩
 have e104 : a.tmps[104]? = some (.agg #[.string (⟨#[105]⟩ : ByteArray), .int .i64 9, .int .i64 0, .int .i64 0, .string (⟨#[]⟩ : ByteArray), .bool false, .bool false]) := by rw [ha]; exact putSel_on (e := (3, 104, .agg #[.string (⟨#[105]⟩ : ByteArray), .int .i64 9, .int .i64 0, .int .i64 0, .string (⟨#[]⟩ : ByteArray), .bool false, .bool false])) 3 rfl rfl (hon 3 (by kernel_rfl)) rfl
 replace ha := Aside0.mk ha
 have HO_106000 := Aside0.mk Q_HO_106000
 have HO_5 := Aside0.mk Q_HO_5
 have HO_6 := Aside0.mk Q_HO_6
 have HO_7 := Aside0.mk Q_HO_7
 have BK105 := Aside0.mk Q_BK105
 have BK106 := Aside0.mk Q_BK106
 have BK107 := Aside0.mk Q_BK107
 have BK108 := Aside0.mk Q_BK108
 have HB := Aside0.mk Q_HB
 refine Kd.R_lit_step k28 _ 28 ?hg (N := 105) ?hd (xs := ([(⟨(⟨#[105]⟩ : ByteArray), 9, (⟨0, 0, (⟨#[]⟩ : ByteArray)⟩ : S26), false, false⟩ : S28)] : List (S28))) (inner := [.string (⟨#[105]⟩ : ByteArray), .int .i64 9, .int .i64 0, .int .i64 0, .string (⟨#[]⟩ : ByteArray), .bool false, .bool false]) (ok := fun _ => True) (okp := fun _ => True) ?hr ?hp (fun _ hk => hk) trivial (Below.refl _ _) (Nat.le_refl _) (by simp) ?_; (case hd => rfl); (case hg => rfl); (case hr => first | (go_simp; done) | (go_simp; rfl)); (case hp => exact (Reps.c7 (show Kd.M k28 _ _ _ (⟨(⟨#[105]⟩ : ByteArray), 9, (⟨0, 0, (⟨#[]⟩ : ByteArray)⟩ : S26), false, false⟩ : S28) [.string (⟨#[105]⟩ : ByteArray), .int .i64 9, .int .i64 0, .int .i64 0, .string (⟨#[]⟩ : ByteArray), .bool false, .bool false] from (k28_mkM _ _ _ (⟨(⟨#[105]⟩ : ByteArray), 9, (⟨0, 0, (⟨#[]⟩ : ByteArray)⟩ : S26), false, false⟩ : S28) )) (Reps.none _ _)))
 intro v172 w110 ho111 hb hg_ hnew_
 clear hg_ hnew_
 (first | rw [← Ny171.out] at ho111 | (simp only [Int.reduceToNat] at ho111; rw [← Ny171.out] at ho111))
 have n0_ := qR HO_5 hb
 have n1_ := Aside0.mk (Kd.N_elder' (by (with_reducible repeat (first | apply Kd.N_alloc | apply Kd.N_drewN | apply Kd.N_drew)); exact HO_6.out) (Kd.R_base ho111) hb)
 have n2_ := qR HO_7 hb
 have n3_ := qR HO_106000 hb
 have n4_ := Aside0.mk (Kd.R_lower ho111 (qZ HB))
 have n5_ := qB BK105 hb
 have n6_ := qB BK106 hb
 have n7_ := qB BK107 hb
 have n8_ := qB BK108 hb
 have n9_ := qS HB hb
 have z_HO167 := fun (h0_ : b 0 = true) (h1_ : b 19 = false) => (show Kd.R k28 28 w110 w.heap.size (fun _ => True) v166 y165 from by first | exact (Kd.R_elder' (by (with_reducible repeat (first | apply Kd.R_alloc | apply Kd.R_drewN | apply Kd.R_drew)); exact (Q_HO167 h0_ h1_)) (Kd.R_base ho111) hb) | exact Kd.R_mono (Kd.R_elder' (by (with_reducible repeat (first | apply Kd.R_alloc | apply Kd.R_drewN | apply Kd.R_drew)); exact (Q_HO167 h0_ h1_)) (Kd.R_base ho111) hb) (fun _ h_ => by first | trivial | exact h_ | exact h_.1))
 have z_HO170 := fun (h0_ : b 2 = true) (h1_ : b 19 = false) => (show Kd.R k28 28 w110 w.heap.size (fun _ => True) v169 y168 from by first | exact (Kd.R_elder' (by (with_reducible repeat (first | apply Kd.R_alloc | apply Kd.R_drewN | apply Kd.R_drew)); exact (Q_HO170 h0_ h1_)) (Kd.R_base ho111) hb) | exact Kd.R_mono (Kd.R_elder' (by (with_reducible repeat (first | apply Kd.R_alloc | apply Kd.R_drewN | apply Kd.R_drew)); exact (Q_HO170 h0_ h1_)) (Kd.R_base ho111) hb) (fun _ h_ => by first | trivial | exact h_ | exact h_.1))
 have z_HO176 := fun (h0_ : b 7 = true) (h1_ : b 19 = false) => (show Kd.R k28 28 w110 w.heap.size (fun _ => True) v175 y174 from by first | exact (Kd.R_elder' (by (with_reducible repeat (first | apply Kd.R_alloc | apply Kd.R_drewN | apply Kd.R_drew)); exact (Q_HO176 h0_ h1_)) (Kd.R_base ho111) hb) | exact Kd.R_mono (Kd.R_elder' (by (with_reducible repeat (first | apply Kd.R_alloc | apply Kd.R_drewN | apply Kd.R_drew)); exact (Q_HO176 h0_ h1_)) (Kd.R_base ho111) hb) (fun _ h_ => by first | trivial | exact h_ | exact h_.1))
 have z_HO179 := fun (h0_ : b 9 = true) (h1_ : b 19 = false) => (show Kd.R k28 28 w110 w.heap.size (fun _ => True) v178 y177 from by first | exact (Kd.R_elder' (by (with_reducible repeat (first | apply Kd.R_alloc | apply Kd.R_drewN | apply Kd.R_drew)); exact (Q_HO179 h0_ h1_)) (Kd.R_base ho111) hb) | exact Kd.R_mono (Kd.R_elder' (by (with_reducible repeat (first | apply Kd.R_alloc | apply Kd.R_drewN | apply Kd.R_drew)); exact (Q_HO179 h0_ h1_)) (Kd.R_base ho111) hb) (fun _ h_ => by first | trivial | exact h_ | exact h_.1))
 have z_HO182 := fun (h0_ : b 12 = true) (h1_ : b 19 = false) => (show Kd.R k28 28 w110 w.heap.size (fun _ => True) v181 y180 from by first | exact (Kd.R_elder' (by (with_reducible repeat (first | apply Kd.R_alloc | apply Kd.R_drewN | apply Kd.R_drew)); exact (Q_HO182 h0_ h1_)) (Kd.R_base ho111) hb) | exact Kd.R_mono (Kd.R_elder' (by (with_reducible repeat (first | apply Kd.R_alloc | apply Kd.R_drewN | apply Kd.R_drew)); exact (Q_HO182 h0_ h1_)) (Kd.R_base ho111) hb) (fun _ h_ => by first | trivial | exact h_ | exact h_.1))
 have z_HO185 := fun (h0_ : b 15 = true) (h1_ : b 19 = false) => (show Kd.R k28 28 w110 w.heap.size (fun _ => True) v184 y183 from by first | exact (Kd.R_elder' (by (with_reducible repeat (first | apply Kd.R_alloc | apply Kd.R_drewN | apply Kd.R_drew)); exact (Q_HO185 h0_ h1_)) (Kd.R_base ho111) hb) | exact Kd.R_mono (Kd.R_elder' (by (with_reducible repeat (first | apply Kd.R_alloc | apply Kd.R_drewN | apply Kd.R_drew)); exact (Q_HO185 h0_ h1_)) (Kd.R_base ho111) hb) (fun _ h_ => by first | trivial | exact h_ | exact h_.1))
 have z_HO188 := fun (h0_ : b 18 = true) (h1_ : b 19 = false) => (show Kd.R k28 28 w110 w.heap.size (fun _ => True) v187 y186 from by first | exact (Kd.R_elder' (by (with_reducible repeat (first | apply Kd.R_alloc | apply Kd.R_drewN | apply Kd.R_drew)); exact (Q_HO188 h0_ h1_)) (Kd.R_base ho111) hb) | exact Kd.R_mono (Kd.R_elder' (by (with_reducible repeat (first | apply Kd.R_alloc | apply Kd.R_drewN | apply Kd.R_drew)); exact (Q_HO188 h0_ h1_)) (Kd.R_base ho111) hb) (fun _ h_ => by first | trivial | exact h_ | exact h_.1))
 clear HO_5
 clear HO_6
 clear HO_7
 clear HO_106000
 clear BK105
 clear BK106
 clear BK107
 clear BK108
 clear HB
 have HO_5 := n0_
 have HO_6 := n1_
 have HO_7 := n2_
 have HO_106000 := n3_
 have HO173 := n4_
 have BK105 := n5_
 have BK106 := n6_
 have BK107 := n7_
 have BK108 := n8_
 have HB := n9_
 clear n0_ n1_ n2_ n3_ n4_ n5_ n6_ n7_ n8_ n9_
 clear hb ho111
 refine hK.out _ _ ⟨v166, v169, v172, v175, v178, v181, v184, v187, v190, m20_, (by rw [ha.out]; exact putSel_upk 4 hb_ rfl rfl rfl), (by (with_reducible repeat (first | apply Kd.R_alloc | apply Kd.R_drewN | apply Kd.R_drew)); exact HO_106000.out), (by (with_reducible repeat (first | apply Kd.R_alloc | apply Kd.R_drewN | apply Kd.R_drew)); exact HO_5.out), (by (with_reducible repeat (first | apply Kd.N_alloc | apply Kd.N_drewN | apply Kd.N_drew)); exact Kd.N_mono HO_6.out (fun _ hk => hk.1)), (by (with_reducible repeat (first | apply Kd.R_alloc | apply Kd.R_drewN | apply Kd.R_drew)); exact HO_7.out), (by (with_reducible repeat (first | refine blk_drewN ?_ _ | refine blk_drew ?_ | refine blk_alloc ?_ _)); exact BK105.out), (by (with_reducible repeat (first | refine blk_drewN ?_ _ | refine blk_drew ?_ | refine blk_alloc ?_ _)); exact BK106.out), (by (with_reducible repeat (first | refine blk_drewN ?_ _ | refine blk_drew ?_ | refine blk_alloc ?_ _)); exact BK107.out), (by (with_reducible repeat (first | refine blk_drewN ?_ _ | refine blk_drew ?_ | refine blk_alloc ?_ _)); exact BK108.out), (by repeat (first | (with_reducible first | exact HB.out | apply below_alloc | apply pw_below_drewN | apply below_drew1 | refine below_set ?_ GE105.out | refine below_set ?_ GE106.out | refine below_set ?_ GE107.out | refine below_set ?_ GE108.out) | exact HB.out)), z_HO167, z_HO170, fun _ _ => (by (with_reducible repeat (first | apply Kd.R_alloc | apply Kd.R_drewN | apply Kd.R_drew)); exact HO173.out), z_HO176, z_HO179, z_HO182, z_HO185, z_HO188, fun h0_ => absurd ((hoff 19 (by kernel_rfl)).symm.trans h0_) (by decide), fun h0_ => absurd ((hoff 20 (by kernel_rfl)).symm.trans h0_) (by decide)⟩
end Go.Proofs.Ytiicfblccklfhaa.PPG2
end
section
namespace Go.Proofs.Ytiicfblccklfhaa.PPG2
open Go.RowKit Go.Proofs.YtiicfblccklfhaaW.PrintWords Go.Proofs.YtiicfblccklfhaaW.PrintLast Go.Proofs.YtiicfblccklfhaaW.PrintMore
attribute [local go_sem] max2_int min2_int max_two min_two max_three min_three max_four min_four
open Go.Proofs.Ytiicfblccklfhaa.Ext Go.Proofs.Ytiicfblccklfhaa.PK Go.Proofs.Ytiicfblccklfhaa.PPF
set_option linter.unusedVariables false
set_option linter.unusedSimpArgs false
set_option maxHeartbeats 80000000 in
set_option maxRecDepth 100000 in
theorem rabbetlaw23_PredForms.calls_r3_r3 : rabbetlaw23_PredForms.calls_r3_c.2.2.2.1 := by
 intro k r w hu64 hu33 hu26 hu28 A1 y102 Ny102 y109 Ny109 y112 Ny112 y115 Ny115 y118 Ny118 y121 Ny121 y124 Ny124 y127 Ny127 y130 Ny130 y133 Ny133 y136 Ny136 y139 Ny139 y142 Ny142 y145 Ny145 y148 Ny148 y151 Ny151 y154 Ny154 y157 Ny157 xi0_ w3 w4 Ao6 co6 gb105 w7 GW105 GE105 gb106 w9 GW106 GE106 NB105_106 NB106_105 gb107 w10 GW107 GE107 NB105_107 NB107_105 NB106_107 NB107_106 hnb11 hnc11 hnb12 hnc12 hnb14 hnc14 gb108 w16 GW108 GE108 NB105_108 NB108_105 NB106_108 NB108_106 NB107_108 NB108_107 hnb17 hnc17 hnb18 hnc18 hnb19 hnc19 v110 w22 w25 w28 w31 w34 w36 w38 w40 w43 w45 w49 w53 w57 w62 w65 Ao67 co67 Ao68 co68 Ao69 co69 Ao70 co70 Ao71 co71 Ao72 co72 Ao73 co73 Ao74 co74 Ao75 co75 Ao76 co76 Ao77 co77 Ao78 co78 Ao79 co79 Ao80 co80 w81 v158 w83 HO104 HO111 HO159 xi1_ xi2_ xi3_ xi4_ xi5_ xi6_ wr u0 u74 u75 u76 u77 u78 u79 u80 u81 u82 u83 u84 u85 u86 u87 u88 u89 u90 u91 u92 u93 u94 u95 u96 u97 u98 u99 u100 xi8_ xi9_ x8_1 k1 xi11_ HK1 c85b0 c107b0 c107b1 y165 Ny165 y168 Ny168 y171 Ny171 y174 Ny174 y177 Ny177 y180 Ny180 y183 Ny183 y186 Ny186 y189 Ny189 y192 Ny192 H' Ao108 co108 HO156 xi10_ xie0_ xie1_ xie2_ xie3_ hHeld HT_ HW_ w109 b a w' v166 v169 v172 v175 v178 v181 v184 v187 v190 m20_ ha Q_HO_106000 Q_HO_5 Q_HO_6 Q_HO_7 Q_BK105 Q_BK106 Q_BK107 Q_BK108 Q_HB Q_HO167 Q_HO170 Q_HO173 Q_HO176 Q_HO179 Q_HO182 Q_HO185 Q_HO188 Q_HO191 Q_X20_ hb_ hon hoff
 refine ⟨_, rfl, fun K hK => ?_⟩
 have e107 : a.tmps[107]? = some (.agg #[.string (⟨#[105]⟩ : ByteArray), .int .i64 1, .int .i64 9, .int .i64 0, .string (⟨#[]⟩ : ByteArray), .bool false, .bool false]) := by rw [ha]; exact putSel_on (e := (6, 107, .agg #[.string (⟨#[105]⟩ : ByteArray), .int .i64 1, .int .i64 9, .int .i64 0, .string (⟨#[]⟩ : ByteArray), .bool false, .bool false])) 6 rfl rfl (hon 6 (by kernel_rfl)) rfl
 replace ha := Aside0.mk ha
 have HO_106000 := Aside0.mk Q_HO_106000
 have HO_5 := Aside0.mk Q_HO_5
 have HO_6 := Aside0.mk Q_HO_6
 have HO_7 := Aside0.mk Q_HO_7
 have BK105 := Aside0.mk Q_BK105
 have BK106 := Aside0.mk Q_BK106
 have BK107 := Aside0.mk Q_BK107
 have BK108 := Aside0.mk Q_BK108
 have HB := Aside0.mk Q_HB
 refine Kd.R_lit_step k28 _ 28 ?hg (N := 108) ?hd (xs := ([(⟨(⟨#[105]⟩ : ByteArray), 1, (⟨9, 0, (⟨#[]⟩ : ByteArray)⟩ : S26), false, false⟩ : S28)] : List (S28))) (inner := [.string (⟨#[105]⟩ : ByteArray), .int .i64 1, .int .i64 9, .int .i64 0, .string (⟨#[]⟩ : ByteArray), .bool false, .bool false]) (ok := fun _ => True) (okp := fun _ => True) ?hr ?hp (fun _ hk => hk) trivial (Below.refl _ _) (Nat.le_refl _) (by simp) ?_; (case hd => rfl); (case hg => rfl); (case hr => first | (go_simp; done) | (go_simp; rfl)); (case hp => exact (Reps.c7 (show Kd.M k28 _ _ _ (⟨(⟨#[105]⟩ : ByteArray), 1, (⟨9, 0, (⟨#[]⟩ : ByteArray)⟩ : S26), false, false⟩ : S28) [.string (⟨#[105]⟩ : ByteArray), .int .i64 1, .int .i64 9, .int .i64 0, .string (⟨#[]⟩ : ByteArray), .bool false, .bool false] from (k28_mkM _ _ _ (⟨(⟨#[105]⟩ : ByteArray), 1, (⟨9, 0, (⟨#[]⟩ : ByteArray)⟩ : S26), false, false⟩ : S28) )) (Reps.none _ _)))
 intro v175 w110 ho111 hb hg_ hnew_
 clear hg_ hnew_
 (first | rw [← Ny174.out] at ho111 | (simp only [Int.reduceToNat] at ho111; rw [← Ny174.out] at ho111))
 have n0_ := qR HO_5 hb
 have n1_ := Aside0.mk (Kd.N_elder' (by (with_reducible repeat (first | apply Kd.N_alloc | apply Kd.N_drewN | apply Kd.N_drew)); exact HO_6.out) (Kd.R_base ho111) hb)
 have n2_ := qR HO_7 hb
 have n3_ := qR HO_106000 hb
 have n4_ := Aside0.mk (Kd.R_lower ho111 (qZ HB))
 have n5_ := qB BK105 hb
 have n6_ := qB BK106 hb
 have n7_ := qB BK107 hb
 have n8_ := qB BK108 hb
 have n9_ := qS HB hb
 have z_HO167 := fun (h0_ : b 0 = true) (h1_ : b 19 = false) => (show Kd.R k28 28 w110 w.heap.size (fun _ => True) v166 y165 from by first | exact (Kd.R_elder' (by (with_reducible repeat (first | apply Kd.R_alloc | apply Kd.R_drewN | apply Kd.R_drew)); exact (Q_HO167 h0_ h1_)) (Kd.R_base ho111) hb) | exact Kd.R_mono (Kd.R_elder' (by (with_reducible repeat (first | apply Kd.R_alloc | apply Kd.R_drewN | apply Kd.R_drew)); exact (Q_HO167 h0_ h1_)) (Kd.R_base ho111) hb) (fun _ h_ => by first | trivial | exact h_ | exact h_.1))
 have z_HO170 := fun (h0_ : b 2 = true) (h1_ : b 19 = false) => (show Kd.R k28 28 w110 w.heap.size (fun _ => True) v169 y168 from by first | exact (Kd.R_elder' (by (with_reducible repeat (first | apply Kd.R_alloc | apply Kd.R_drewN | apply Kd.R_drew)); exact (Q_HO170 h0_ h1_)) (Kd.R_base ho111) hb) | exact Kd.R_mono (Kd.R_elder' (by (with_reducible repeat (first | apply Kd.R_alloc | apply Kd.R_drewN | apply Kd.R_drew)); exact (Q_HO170 h0_ h1_)) (Kd.R_base ho111) hb) (fun _ h_ => by first | trivial | exact h_ | exact h_.1))
 have z_HO173 := fun (h0_ : b 4 = true) (h1_ : b 19 = false) => (show Kd.R k28 28 w110 w.heap.size (fun _ => True) v172 y171 from by first | exact (Kd.R_elder' (by (with_reducible repeat (first | apply Kd.R_alloc | apply Kd.R_drewN | apply Kd.R_drew)); exact (Q_HO173 h0_ h1_)) (Kd.R_base ho111) hb) | exact Kd.R_mono (Kd.R_elder' (by (with_reducible repeat (first | apply Kd.R_alloc | apply Kd.R_drewN | apply Kd.R_drew)); exact (Q_HO173 h0_ h1_)) (Kd.R_base ho111) hb) (fun _ h_ => by first | trivial | exact h_ | exact h_.1))
 have z_HO179 := fun (h0_ : b 9 = true) (h1_ : b 19 = false) => (show Kd.R k28 28 w110 w.heap.size (fun _ => True) v178 y177 from by first | exact (Kd.R_elder' (by (with_reducible repeat (first | apply Kd.R_alloc | apply Kd.R_drewN | apply Kd.R_drew)); exact (Q_HO179 h0_ h1_)) (Kd.R_base ho111) hb) | exact Kd.R_mono (Kd.R_elder' (by (with_reducible repeat (first | apply Kd.R_alloc | apply Kd.R_drewN | apply Kd.R_drew)); exact (Q_HO179 h0_ h1_)) (Kd.R_base ho111) hb) (fun _ h_ => by first | trivial | exact h_ | exact h_.1))
 have z_HO182 := fun (h0_ : b 12 = true) (h1_ : b 19 = false) => (show Kd.R k28 28 w110 w.heap.size (fun _ => True) v181 y180 from by first | exact (Kd.R_elder' (by (with_reducible repeat (first | apply Kd.R_alloc | apply Kd.R_drewN | apply Kd.R_drew)); exact (Q_HO182 h0_ h1_)) (Kd.R_base ho111) hb) | exact Kd.R_mono (Kd.R_elder' (by (with_reducible repeat (first | apply Kd.R_alloc | apply Kd.R_drewN | apply Kd.R_drew)); exact (Q_HO182 h0_ h1_)) (Kd.R_base ho111) hb) (fun _ h_ => by first | trivial | exact h_ | exact h_.1))
 have z_HO185 := fun (h0_ : b 15 = true) (h1_ : b 19 = false) => (show Kd.R k28 28 w110 w.heap.size (fun _ => True) v184 y183 from by first | exact (Kd.R_elder' (by (with_reducible repeat (first | apply Kd.R_alloc | apply Kd.R_drewN | apply Kd.R_drew)); exact (Q_HO185 h0_ h1_)) (Kd.R_base ho111) hb) | exact Kd.R_mono (Kd.R_elder' (by (with_reducible repeat (first | apply Kd.R_alloc | apply Kd.R_drewN | apply Kd.R_drew)); exact (Q_HO185 h0_ h1_)) (Kd.R_base ho111) hb) (fun _ h_ => by first | trivial | exact h_ | exact h_.1))
 have z_HO188 := fun (h0_ : b 18 = true) (h1_ : b 19 = false) => (show Kd.R k28 28 w110 w.heap.size (fun _ => True) v187 y186 from by first | exact (Kd.R_elder' (by (with_reducible repeat (first | apply Kd.R_alloc | apply Kd.R_drewN | apply Kd.R_drew)); exact (Q_HO188 h0_ h1_)) (Kd.R_base ho111) hb) | exact Kd.R_mono (Kd.R_elder' (by (with_reducible repeat (first | apply Kd.R_alloc | apply Kd.R_drewN | apply Kd.R_drew)); exact (Q_HO188 h0_ h1_)) (Kd.R_base ho111) hb) (fun _ h_ => by first | trivial | exact h_ | exact h_.1))
 clear HO_5
 clear HO_6
 clear HO_7
 clear HO_106000
 clear BK105
 clear BK106
 clear BK107
 clear BK108
 clear HB
 have HO_5 := n0_
 have HO_6 := n1_
 have HO_7 := n2_
 have HO_106000 := n3_
 have HO176 := n4_
 have BK105 := n5_
 have BK106 := n6_
 have BK107 := n7_
 have BK108 := n8_
 have HB := n9_
 clear n0_ n1_ n2_ n3_ n4_ n5_ n6_ n7_ n8_ n9_
 clear hb ho111
 refine hK.out _ _ ⟨v166, v169, v172, v175, v178, v181, v184, v187, v190, m20_, (by rw [ha.out]; exact putSel_upk 7 hb_ rfl rfl rfl), (by (with_reducible repeat (first | apply Kd.R_alloc | apply Kd.R_drewN | apply Kd.R_drew)); exact HO_106000.out), (by (with_reducible repeat (first | apply Kd.R_alloc | apply Kd.R_drewN | apply Kd.R_drew)); exact HO_5.out), (by (with_reducible repeat (first | apply Kd.N_alloc | apply Kd.N_drewN | apply Kd.N_drew)); exact Kd.N_mono HO_6.out (fun _ hk => hk.1)), (by (with_reducible repeat (first | apply Kd.R_alloc | apply Kd.R_drewN | apply Kd.R_drew)); exact HO_7.out), (by (with_reducible repeat (first | refine blk_drewN ?_ _ | refine blk_drew ?_ | refine blk_alloc ?_ _)); exact BK105.out), (by (with_reducible repeat (first | refine blk_drewN ?_ _ | refine blk_drew ?_ | refine blk_alloc ?_ _)); exact BK106.out), (by (with_reducible repeat (first | refine blk_drewN ?_ _ | refine blk_drew ?_ | refine blk_alloc ?_ _)); exact BK107.out), (by (with_reducible repeat (first | refine blk_drewN ?_ _ | refine blk_drew ?_ | refine blk_alloc ?_ _)); exact BK108.out), (by repeat (first | (with_reducible first | exact HB.out | apply below_alloc | apply pw_below_drewN | apply below_drew1 | refine below_set ?_ GE105.out | refine below_set ?_ GE106.out | refine below_set ?_ GE107.out | refine below_set ?_ GE108.out) | exact HB.out)), z_HO167, z_HO170, z_HO173, fun _ _ => (by (with_reducible repeat (first | apply Kd.R_alloc | apply Kd.R_drewN | apply Kd.R_drew)); exact HO176.out), z_HO179, z_HO182, z_HO185, z_HO188, fun h0_ => absurd ((hoff 19 (by kernel_rfl)).symm.trans h0_) (by decide), fun h0_ => absurd ((hoff 20 (by kernel_rfl)).symm.trans h0_) (by decide)⟩
end Go.Proofs.Ytiicfblccklfhaa.PPG2
end
section
namespace Go.Proofs.Ytiicfblccklfhaa.PPG2
open Go.RowKit Go.Proofs.YtiicfblccklfhaaW.PrintWords Go.Proofs.YtiicfblccklfhaaW.PrintLast Go.Proofs.YtiicfblccklfhaaW.PrintMore
attribute [local go_sem] max2_int min2_int max_two min_two max_three min_three max_four min_four
open Go.Proofs.Ytiicfblccklfhaa.Ext Go.Proofs.Ytiicfblccklfhaa.PK Go.Proofs.Ytiicfblccklfhaa.PPF
set_option linter.unusedVariables false
set_option linter.unusedSimpArgs false
set_option maxHeartbeats 80000000 in
set_option maxRecDepth 100000 in
theorem rabbetlaw23_PredForms.calls_r3_r4 : rabbetlaw23_PredForms.calls_r3_c.2.2.2.2.1 := by
 intro k r w hu64 hu33 hu26 hu28 A1 y102 Ny102 y109 Ny109 y112 Ny112 y115 Ny115 y118 Ny118 y121 Ny121 y124 Ny124 y127 Ny127 y130 Ny130 y133 Ny133 y136 Ny136 y139 Ny139 y142 Ny142 y145 Ny145 y148 Ny148 y151 Ny151 y154 Ny154 y157 Ny157 xi0_ w3 w4 Ao6 co6 gb105 w7 GW105 GE105 gb106 w9 GW106 GE106 NB105_106 NB106_105 gb107 w10 GW107 GE107 NB105_107 NB107_105 NB106_107 NB107_106 hnb11 hnc11 hnb12 hnc12 hnb14 hnc14 gb108 w16 GW108 GE108 NB105_108 NB108_105 NB106_108 NB108_106 NB107_108 NB108_107 hnb17 hnc17 hnb18 hnc18 hnb19 hnc19 v110 w22 w25 w28 w31 w34 w36 w38 w40 w43 w45 w49 w53 w57 w62 w65 Ao67 co67 Ao68 co68 Ao69 co69 Ao70 co70 Ao71 co71 Ao72 co72 Ao73 co73 Ao74 co74 Ao75 co75 Ao76 co76 Ao77 co77 Ao78 co78 Ao79 co79 Ao80 co80 w81 v158 w83 HO104 HO111 HO159 xi1_ xi2_ xi3_ xi4_ xi5_ xi6_ wr u0 u74 u75 u76 u77 u78 u79 u80 u81 u82 u83 u84 u85 u86 u87 u88 u89 u90 u91 u92 u93 u94 u95 u96 u97 u98 u99 u100 xi8_ xi9_ x8_1 k1 xi11_ HK1 c85b0 c107b0 c107b1 y165 Ny165 y168 Ny168 y171 Ny171 y174 Ny174 y177 Ny177 y180 Ny180 y183 Ny183 y186 Ny186 y189 Ny189 y192 Ny192 H' Ao108 co108 HO156 xi10_ xie0_ xie1_ xie2_ xie3_ hHeld HT_ HW_ w109 b a w' v166 v169 v172 v175 v178 v181 v184 v187 v190 m20_ ha Q_HO_106000 Q_HO_5 Q_HO_6 Q_HO_7 Q_BK105 Q_BK106 Q_BK107 Q_BK108 Q_HB Q_HO167 Q_HO170 Q_HO173 Q_HO176 Q_HO179 Q_HO182 Q_HO185 Q_HO188 Q_HO191 Q_X20_ hb_ hon hoff
 refine ⟨_, rfl, fun K hK => ?_⟩
 have e109 : a.tmps[109]? = some (.agg #[.string (⟨#[120]⟩ : ByteArray), .int .i64 7, .int .i64 0, .int .i64 0, .string (⟨#[]⟩ : ByteArray), .bool false, .bool false]) := by rw [ha]; exact putSel_on (e := (8, 109, .agg #[.string (⟨#[120]⟩ : ByteArray), .int .i64 7, .int .i64 0, .int .i64 0, .string (⟨#[]⟩ : ByteArray), .bool false, .bool false])) 8 rfl rfl (hon 8 (by kernel_rfl)) rfl
 replace ha := Aside0.mk ha
 have HO_106000 := Aside0.mk Q_HO_106000
 have HO_5 := Aside0.mk Q_HO_5
 have HO_6 := Aside0.mk Q_HO_6
 have HO_7 := Aside0.mk Q_HO_7
 have BK105 := Aside0.mk Q_BK105
 have BK106 := Aside0.mk Q_BK106
 have BK107 := Aside0.mk Q_BK107
 have BK108 := Aside0.mk Q_BK108
 have HB := Aside0.mk Q_HB
 refine Kd.R_lit_step k28 _ 28 ?hg (N := 110) ?hd (xs := ([(⟨(⟨#[120]⟩ : ByteArray), 7, (⟨0, 0, (⟨#[]⟩ : ByteArray)⟩ : S26), false, false⟩ : S28)] : List (S28))) (inner := [.string (⟨#[120]⟩ : ByteArray), .int .i64 7, .int .i64 0, .int .i64 0, .string (⟨#[]⟩ : ByteArray), .bool false, .bool false]) (ok := fun _ => True) (okp := fun _ => True) ?hr ?hp (fun _ hk => hk) trivial (Below.refl _ _) (Nat.le_refl _) (by simp) ?_; (case hd => rfl); (case hg => rfl); (case hr => first | (go_simp; done) | (go_simp; rfl)); (case hp => exact (Reps.c7 (show Kd.M k28 _ _ _ (⟨(⟨#[120]⟩ : ByteArray), 7, (⟨0, 0, (⟨#[]⟩ : ByteArray)⟩ : S26), false, false⟩ : S28) [.string (⟨#[120]⟩ : ByteArray), .int .i64 7, .int .i64 0, .int .i64 0, .string (⟨#[]⟩ : ByteArray), .bool false, .bool false] from (k28_mkM _ _ _ (⟨(⟨#[120]⟩ : ByteArray), 7, (⟨0, 0, (⟨#[]⟩ : ByteArray)⟩ : S26), false, false⟩ : S28) )) (Reps.none _ _)))
 intro v178 w110 ho111 hb hg_ hnew_
 clear hg_ hnew_
 (first | rw [← Ny177.out] at ho111 | (simp only [Int.reduceToNat] at ho111; rw [← Ny177.out] at ho111))
 have n0_ := qR HO_5 hb
 have n1_ := Aside0.mk (Kd.N_elder' (by (with_reducible repeat (first | apply Kd.N_alloc | apply Kd.N_drewN | apply Kd.N_drew)); exact HO_6.out) (Kd.R_base ho111) hb)
 have n2_ := qR HO_7 hb
 have n3_ := qR HO_106000 hb
 have n4_ := Aside0.mk (Kd.R_lower ho111 (qZ HB))
 have n5_ := qB BK105 hb
 have n6_ := qB BK106 hb
 have n7_ := qB BK107 hb
 have n8_ := qB BK108 hb
 have n9_ := qS HB hb
 have z_HO167 := fun (h0_ : b 0 = true) (h1_ : b 19 = false) => (show Kd.R k28 28 w110 w.heap.size (fun _ => True) v166 y165 from by first | exact (Kd.R_elder' (by (with_reducible repeat (first | apply Kd.R_alloc | apply Kd.R_drewN | apply Kd.R_drew)); exact (Q_HO167 h0_ h1_)) (Kd.R_base ho111) hb) | exact Kd.R_mono (Kd.R_elder' (by (with_reducible repeat (first | apply Kd.R_alloc | apply Kd.R_drewN | apply Kd.R_drew)); exact (Q_HO167 h0_ h1_)) (Kd.R_base ho111) hb) (fun _ h_ => by first | trivial | exact h_ | exact h_.1))
 have z_HO170 := fun (h0_ : b 2 = true) (h1_ : b 19 = false) => (show Kd.R k28 28 w110 w.heap.size (fun _ => True) v169 y168 from by first | exact (Kd.R_elder' (by (with_reducible repeat (first | apply Kd.R_alloc | apply Kd.R_drewN | apply Kd.R_drew)); exact (Q_HO170 h0_ h1_)) (Kd.R_base ho111) hb) | exact Kd.R_mono (Kd.R_elder' (by (with_reducible repeat (first | apply Kd.R_alloc | apply Kd.R_drewN | apply Kd.R_drew)); exact (Q_HO170 h0_ h1_)) (Kd.R_base ho111) hb) (fun _ h_ => by first | trivial | exact h_ | exact h_.1))
 have z_HO173 := fun (h0_ : b 4 = true) (h1_ : b 19 = false) => (show Kd.R k28 28 w110 w.heap.size (fun _ => True) v172 y171 from by first | exact (Kd.R_elder' (by (with_reducible repeat (first | apply Kd.R_alloc | apply Kd.R_drewN | apply Kd.R_drew)); exact (Q_HO173 h0_ h1_)) (Kd.R_base ho111) hb) | exact Kd.R_mono (Kd.R_elder' (by (with_reducible repeat (first | apply Kd.R_alloc | apply Kd.R_drewN | apply Kd.R_drew)); exact (Q_HO173 h0_ h1_)) (Kd.R_base ho111) hb) (fun _ h_ => by first | trivial | exact h_ | exact h_.1))
 have z_HO176 := fun (h0_ : b 7 = true) (h1_ : b 19 = false) => (show Kd.R k28 28 w110 w.heap.size (fun _ => True) v175 y174 from by first | exact (Kd.R_elder' (by (with_reducible repeat (first | apply Kd.R_alloc | apply Kd.R_drewN | apply Kd.R_drew)); exact (Q_HO176 h0_ h1_)) (Kd.R_base ho111) hb) | exact Kd.R_mono (Kd.R_elder' (by (with_reducible repeat (first | apply Kd.R_alloc | apply Kd.R_drewN | apply Kd.R_drew)); exact (Q_HO176 h0_ h1_)) (Kd.R_base ho111) hb) (fun _ h_ => by first | trivial | exact h_ | exact h_.1))
 have z_HO182 := fun (h0_ : b 12 = true) (h1_ : b 19 = false) => (show Kd.R k28 28 w110 w.heap.size (fun _ => True) v181 y180 from by first | exact (Kd.R_elder' (by (with_reducible repeat (first | apply Kd.R_alloc | apply Kd.R_drewN | apply Kd.R_drew)); exact (Q_HO182 h0_ h1_)) (Kd.R_base ho111) hb) | exact Kd.R_mono (Kd.R_elder' (by (with_reducible repeat (first | apply Kd.R_alloc | apply Kd.R_drewN | apply Kd.R_drew)); exact (Q_HO182 h0_ h1_)) (Kd.R_base ho111) hb) (fun _ h_ => by first | trivial | exact h_ | exact h_.1))
 have z_HO185 := fun (h0_ : b 15 = true) (h1_ : b 19 = false) => (show Kd.R k28 28 w110 w.heap.size (fun _ => True) v184 y183 from by first | exact (Kd.R_elder' (by (with_reducible repeat (first | apply Kd.R_alloc | apply Kd.R_drewN | apply Kd.R_drew)); exact (Q_HO185 h0_ h1_)) (Kd.R_base ho111) hb) | exact Kd.R_mono (Kd.R_elder' (by (with_reducible repeat (first | apply Kd.R_alloc | apply Kd.R_drewN | apply Kd.R_drew)); exact (Q_HO185 h0_ h1_)) (Kd.R_base ho111) hb) (fun _ h_ => by first | trivial | exact h_ | exact h_.1))
 have z_HO188 := fun (h0_ : b 18 = true) (h1_ : b 19 = false) => (show Kd.R k28 28 w110 w.heap.size (fun _ => True) v187 y186 from by first | exact (Kd.R_elder' (by (with_reducible repeat (first | apply Kd.R_alloc | apply Kd.R_drewN | apply Kd.R_drew)); exact (Q_HO188 h0_ h1_)) (Kd.R_base ho111) hb) | exact Kd.R_mono (Kd.R_elder' (by (with_reducible repeat (first | apply Kd.R_alloc | apply Kd.R_drewN | apply Kd.R_drew)); exact (Q_HO188 h0_ h1_)) (Kd.R_base ho111) hb) (fun _ h_ => by first | trivial | exact h_ | exact h_.1))
 clear HO_5
 clear HO_6
 clear HO_7
 clear HO_106000
 clear BK105
 clear BK106
 clear BK107
 clear BK108
 clear HB
 have HO_5 := n0_
 have HO_6 := n1_
 have HO_7 := n2_
 have HO_106000 := n3_
 have HO179 := n4_
 have BK105 := n5_
 have BK106 := n6_
 have BK107 := n7_
 have BK108 := n8_
 have HB := n9_
 clear n0_ n1_ n2_ n3_ n4_ n5_ n6_ n7_ n8_ n9_
 clear hb ho111
 refine hK.out _ _ ⟨v166, v169, v172, v175, v178, v181, v184, v187, v190, m20_, (by rw [ha.out]; exact putSel_upk 9 hb_ rfl rfl rfl), (by (with_reducible repeat (first | apply Kd.R_alloc | apply Kd.R_drewN | apply Kd.R_drew)); exact HO_106000.out), (by (with_reducible repeat (first | apply Kd.R_alloc | apply Kd.R_drewN | apply Kd.R_drew)); exact HO_5.out), (by (with_reducible repeat (first | apply Kd.N_alloc | apply Kd.N_drewN | apply Kd.N_drew)); exact Kd.N_mono HO_6.out (fun _ hk => hk.1)), (by (with_reducible repeat (first | apply Kd.R_alloc | apply Kd.R_drewN | apply Kd.R_drew)); exact HO_7.out), (by (with_reducible repeat (first | refine blk_drewN ?_ _ | refine blk_drew ?_ | refine blk_alloc ?_ _)); exact BK105.out), (by (with_reducible repeat (first | refine blk_drewN ?_ _ | refine blk_drew ?_ | refine blk_alloc ?_ _)); exact BK106.out), (by (with_reducible repeat (first | refine blk_drewN ?_ _ | refine blk_drew ?_ | refine blk_alloc ?_ _)); exact BK107.out), (by (with_reducible repeat (first | refine blk_drewN ?_ _ | refine blk_drew ?_ | refine blk_alloc ?_ _)); exact BK108.out), (by repeat (first | (with_reducible first | exact HB.out | apply below_alloc | apply pw_below_drewN | apply below_drew1 | refine below_set ?_ GE105.out | refine below_set ?_ GE106.out | refine below_set ?_ GE107.out | refine below_set ?_ GE108.out) | exact HB.out)), z_HO167, z_HO170, z_HO173, z_HO176, fun _ _ => (by (with_reducible repeat (first | apply Kd.R_alloc | apply Kd.R_drewN | apply Kd.R_drew)); exact HO179.out), z_HO182, z_HO185, z_HO188, fun h0_ => absurd ((hoff 19 (by kernel_rfl)).symm.trans h0_) (by decide), fun h0_ => absurd ((hoff 20 (by kernel_rfl)).symm.trans h0_) (by decide)⟩
end Go.Proofs.Ytiicfblccklfhaa.PPG2
end
section
namespace Go.Proofs.Ytiicfblccklfhaa.PPG2
open Go.RowKit Go.Proofs.YtiicfblccklfhaaW.PrintWords Go.Proofs.YtiicfblccklfhaaW.PrintLast Go.Proofs.YtiicfblccklfhaaW.PrintMore
attribute [local go_sem] max2_int min2_int max_two min_two max_three min_three max_four min_four
open Go.Proofs.Ytiicfblccklfhaa.Ext Go.Proofs.Ytiicfblccklfhaa.PK Go.Proofs.Ytiicfblccklfhaa.PPF
set_option linter.unusedVariables false
set_option linter.unusedSimpArgs false
set_option maxHeartbeats 80000000 in
set_option maxRecDepth 100000 in
theorem rabbetlaw23_PredForms.calls_r3_r5 : rabbetlaw23_PredForms.calls_r3_c.2.2.2.2.2.1 := by
 intro k r w hu64 hu33 hu26 hu28 A1 y102 Ny102 y109 Ny109 y112 Ny112 y115 Ny115 y118 Ny118 y121 Ny121 y124 Ny124 y127 Ny127 y130 Ny130 y133 Ny133 y136 Ny136 y139 Ny139 y142 Ny142 y145 Ny145 y148 Ny148 y151 Ny151 y154 Ny154 y157 Ny157 xi0_ w3 w4 Ao6 co6 gb105 w7 GW105 GE105 gb106 w9 GW106 GE106 NB105_106 NB106_105 gb107 w10 GW107 GE107 NB105_107 NB107_105 NB106_107 NB107_106 hnb11 hnc11 hnb12 hnc12 hnb14 hnc14 gb108 w16 GW108 GE108 NB105_108 NB108_105 NB106_108 NB108_106 NB107_108 NB108_107 hnb17 hnc17 hnb18 hnc18 hnb19 hnc19 v110 w22 w25 w28 w31 w34 w36 w38 w40 w43 w45 w49 w53 w57 w62 w65 Ao67 co67 Ao68 co68 Ao69 co69 Ao70 co70 Ao71 co71 Ao72 co72 Ao73 co73 Ao74 co74 Ao75 co75 Ao76 co76 Ao77 co77 Ao78 co78 Ao79 co79 Ao80 co80 w81 v158 w83 HO104 HO111 HO159 xi1_ xi2_ xi3_ xi4_ xi5_ xi6_ wr u0 u74 u75 u76 u77 u78 u79 u80 u81 u82 u83 u84 u85 u86 u87 u88 u89 u90 u91 u92 u93 u94 u95 u96 u97 u98 u99 u100 xi8_ xi9_ x8_1 k1 xi11_ HK1 c85b0 c107b0 c107b1 y165 Ny165 y168 Ny168 y171 Ny171 y174 Ny174 y177 Ny177 y180 Ny180 y183 Ny183 y186 Ny186 y189 Ny189 y192 Ny192 H' Ao108 co108 HO156 xi10_ xie0_ xie1_ xie2_ xie3_ hHeld HT_ HW_ w109 b a w' v166 v169 v172 v175 v178 v181 v184 v187 v190 m20_ ha Q_HO_106000 Q_HO_5 Q_HO_6 Q_HO_7 Q_BK105 Q_BK106 Q_BK107 Q_BK108 Q_HB Q_HO167 Q_HO170 Q_HO173 Q_HO176 Q_HO179 Q_HO182 Q_HO185 Q_HO188 Q_HO191 Q_X20_ hb_ hon hoff
 refine ⟨_, rfl, fun K hK => ?_⟩
 have e112 : a.tmps[112]? = some (.agg #[.string (⟨#[105]⟩ : ByteArray), .int .i64 1, .int .i64 4, .int .i64 0, .string (⟨#[98]⟩ : ByteArray), .bool false, .bool false]) := by rw [ha]; exact putSel_on (e := (11, 112, .agg #[.string (⟨#[105]⟩ : ByteArray), .int .i64 1, .int .i64 4, .int .i64 0, .string (⟨#[98]⟩ : ByteArray), .bool false, .bool false])) 11 rfl rfl (hon 11 (by kernel_rfl)) rfl
 replace ha := Aside0.mk ha
 have HO_106000 := Aside0.mk Q_HO_106000
 have HO_5 := Aside0.mk Q_HO_5
 have HO_6 := Aside0.mk Q_HO_6
 have HO_7 := Aside0.mk Q_HO_7
 have BK105 := Aside0.mk Q_BK105
 have BK106 := Aside0.mk Q_BK106
 have BK107 := Aside0.mk Q_BK107
 have BK108 := Aside0.mk Q_BK108
 have HB := Aside0.mk Q_HB
 refine Kd.R_lit_step k28 _ 28 ?hg (N := 113) ?hd (xs := ([(⟨(⟨#[105]⟩ : ByteArray), 1, (⟨4, 0, (⟨#[98]⟩ : ByteArray)⟩ : S26), false, false⟩ : S28)] : List (S28))) (inner := [.string (⟨#[105]⟩ : ByteArray), .int .i64 1, .int .i64 4, .int .i64 0, .string (⟨#[98]⟩ : ByteArray), .bool false, .bool false]) (ok := fun _ => True) (okp := fun _ => True) ?hr ?hp (fun _ hk => hk) trivial (Below.refl _ _) (Nat.le_refl _) (by simp) ?_; (case hd => rfl); (case hg => rfl); (case hr => first | (go_simp; done) | (go_simp; rfl)); (case hp => exact (Reps.c7 (show Kd.M k28 _ _ _ (⟨(⟨#[105]⟩ : ByteArray), 1, (⟨4, 0, (⟨#[98]⟩ : ByteArray)⟩ : S26), false, false⟩ : S28) [.string (⟨#[105]⟩ : ByteArray), .int .i64 1, .int .i64 4, .int .i64 0, .string (⟨#[98]⟩ : ByteArray), .bool false, .bool false] from (k28_mkM _ _ _ (⟨(⟨#[105]⟩ : ByteArray), 1, (⟨4, 0, (⟨#[98]⟩ : ByteArray)⟩ : S26), false, false⟩ : S28) )) (Reps.none _ _)))
 intro v181 w110 ho111 hb hg_ hnew_
 clear hg_ hnew_
 (first | rw [← Ny180.out] at ho111 | (simp only [Int.reduceToNat] at ho111; rw [← Ny180.out] at ho111))
 have n0_ := qR HO_5 hb
 have n1_ := Aside0.mk (Kd.N_elder' (by (with_reducible repeat (first | apply Kd.N_alloc | apply Kd.N_drewN | apply Kd.N_drew)); exact HO_6.out) (Kd.R_base ho111) hb)
 have n2_ := qR HO_7 hb
 have n3_ := qR HO_106000 hb
 have n4_ := Aside0.mk (Kd.R_lower ho111 (qZ HB))
 have n5_ := qB BK105 hb
 have n6_ := qB BK106 hb
 have n7_ := qB BK107 hb
 have n8_ := qB BK108 hb
 have n9_ := qS HB hb
 have z_HO167 := fun (h0_ : b 0 = true) (h1_ : b 19 = false) => (show Kd.R k28 28 w110 w.heap.size (fun _ => True) v166 y165 from by first | exact (Kd.R_elder' (by (with_reducible repeat (first | apply Kd.R_alloc | apply Kd.R_drewN | apply Kd.R_drew)); exact (Q_HO167 h0_ h1_)) (Kd.R_base ho111) hb) | exact Kd.R_mono (Kd.R_elder' (by (with_reducible repeat (first | apply Kd.R_alloc | apply Kd.R_drewN | apply Kd.R_drew)); exact (Q_HO167 h0_ h1_)) (Kd.R_base ho111) hb) (fun _ h_ => by first | trivial | exact h_ | exact h_.1))
 have z_HO170 := fun (h0_ : b 2 = true) (h1_ : b 19 = false) => (show Kd.R k28 28 w110 w.heap.size (fun _ => True) v169 y168 from by first | exact (Kd.R_elder' (by (with_reducible repeat (first | apply Kd.R_alloc | apply Kd.R_drewN | apply Kd.R_drew)); exact (Q_HO170 h0_ h1_)) (Kd.R_base ho111) hb) | exact Kd.R_mono (Kd.R_elder' (by (with_reducible repeat (first | apply Kd.R_alloc | apply Kd.R_drewN | apply Kd.R_drew)); exact (Q_HO170 h0_ h1_)) (Kd.R_base ho111) hb) (fun _ h_ => by first | trivial | exact h_ | exact h_.1))
 have z_HO173 := fun (h0_ : b 4 = true) (h1_ : b 19 = false) => (show Kd.R k28 28 w110 w.heap.size (fun _ => True) v172 y171 from by first | exact (Kd.R_elder' (by (with_reducible repeat (first | apply Kd.R_alloc | apply Kd.R_drewN | apply Kd.R_drew)); exact (Q_HO173 h0_ h1_)) (Kd.R_base ho111) hb) | exact Kd.R_mono (Kd.R_elder' (by (with_reducible repeat (first | apply Kd.R_alloc | apply Kd.R_drewN | apply Kd.R_drew)); exact (Q_HO173 h0_ h1_)) (Kd.R_base ho111) hb) (fun _ h_ => by first | trivial | exact h_ | exact h_.1))
 have z_HO176 := fun (h0_ : b 7 = true) (h1_ : b 19 = false) => (show Kd.R k28 28 w110 w.heap.size (fun _ => True) v175 y174 from by first | exact (Kd.R_elder' (by (with_reducible repeat (first | apply Kd.R_alloc | apply Kd.R_drewN | apply Kd.R_drew)); exact (Q_HO176 h0_ h1_)) (Kd.R_base ho111) hb) | exact Kd.R_mono (Kd.R_elder' (by (with_reducible repeat (first | apply Kd.R_alloc | apply Kd.R_drewN | apply Kd.R_drew)); exact (Q_HO176 h0_ h1_)) (Kd.R_base ho111) hb) (fun _ h_ => by first | trivial | exact h_ | exact h_.1))
 have z_HO179 := fun (h0_ : b 9 = true) (h1_ : b 19 = false) => (show Kd.R k28 28 w110 w.heap.size (fun _ => True) v178 y177 from by first | exact (Kd.R_elder' (by (with_reducible repeat (first | apply Kd.R_alloc | apply Kd.R_drewN | apply Kd.R_drew)); exact (Q_HO179 h0_ h1_)) (Kd.R_base ho111) hb) | exact Kd.R_mono (Kd.R_elder' (by (with_reducible repeat (first | apply Kd.R_alloc | apply Kd.R_drewN | apply Kd.R_drew)); exact (Q_HO179 h0_ h1_)) (Kd.R_base ho111) hb) (fun _ h_ => by first | trivial | exact h_ | exact h_.1))
 have z_HO185 := fun (h0_ : b 15 = true) (h1_ : b 19 = false) => (show Kd.R k28 28 w110 w.heap.size (fun _ => True) v184 y183 from by first | exact (Kd.R_elder' (by (with_reducible repeat (first | apply Kd.R_alloc | apply Kd.R_drewN | apply Kd.R_drew)); exact (Q_HO185 h0_ h1_)) (Kd.R_base ho111) hb) | exact Kd.R_mono (Kd.R_elder' (by (with_reducible repeat (first | apply Kd.R_alloc | apply Kd.R_drewN | apply Kd.R_drew)); exact (Q_HO185 h0_ h1_)) (Kd.R_base ho111) hb) (fun _ h_ => by first | trivial | exact h_ | exact h_.1))
 have z_HO188 := fun (h0_ : b 18 = true) (h1_ : b 19 = false) => (show Kd.R k28 28 w110 w.heap.size (fun _ => True) v187 y186 from by first | exact (Kd.R_elder' (by (with_reducible repeat (first | apply Kd.R_alloc | apply Kd.R_drewN | apply Kd.R_drew)); exact (Q_HO188 h0_ h1_)) (Kd.R_base ho111) hb) | exact Kd.R_mono (Kd.R_elder' (by (with_reducible repeat (first | apply Kd.R_alloc | apply Kd.R_drewN | apply Kd.R_drew)); exact (Q_HO188 h0_ h1_)) (Kd.R_base ho111) hb) (fun _ h_ => by first | trivial | exact h_ | exact h_.1))
 clear HO_5
 clear HO_6
 clear HO_7
 clear HO_106000
 clear BK105
 clear BK106
 clear BK107
 clear BK108
 clear HB
 have HO_5 := n0_
 have HO_6 := n1_
 have HO_7 := n2_
 have HO_106000 := n3_
 have HO182 := n4_
 have BK105 := n5_
 have BK106 := n6_
 have BK107 := n7_
 have BK108 := n8_
 have HB := n9_
 clear n0_ n1_ n2_ n3_ n4_ n5_ n6_ n7_ n8_ n9_
 clear hb ho111
 refine hK.out _ _ ⟨v166, v169, v172, v175, v178, v181, v184, v187, v190, m20_, (by rw [ha.out]; exact putSel_upk 12 hb_ rfl rfl rfl), (by (with_reducible repeat (first | apply Kd.R_alloc | apply Kd.R_drewN | apply Kd.R_drew)); exact HO_106000.out), (by (with_reducible repeat (first | apply Kd.R_alloc | apply Kd.R_drewN | apply Kd.R_drew)); exact HO_5.out), (by (with_reducible repeat (first | apply Kd.N_alloc | apply Kd.N_drewN | apply Kd.N_drew)); exact Kd.N_mono HO_6.out (fun _ hk => hk.1)), (by (with_reducible repeat (first | apply Kd.R_alloc | apply Kd.R_drewN | apply Kd.R_drew)); exact HO_7.out), (by (with_reducible repeat (first | refine blk_drewN ?_ _ | refine blk_drew ?_ | refine blk_alloc ?_ _)); exact BK105.out), (by (with_reducible repeat (first | refine blk_drewN ?_ _ | refine blk_drew ?_ | refine blk_alloc ?_ _)); exact BK106.out), (by (with_reducible repeat (first | refine blk_drewN ?_ _ | refine blk_drew ?_ | refine blk_alloc ?_ _)); exact BK107.out), (by (with_reducible repeat (first | refine blk_drewN ?_ _ | refine blk_drew ?_ | refine blk_alloc ?_ _)); exact BK108.out), (by repeat (first | (with_reducible first | exact HB.out | apply below_alloc | apply pw_below_drewN | apply below_drew1 | refine below_set ?_ GE105.out | refine below_set ?_ GE106.out | refine below_set ?_ GE107.out | refine below_set ?_ GE108.out) | exact HB.out)), z_HO167, z_HO170, z_HO173, z_HO176, z_HO179, fun _ _ => (by (with_reducible repeat (first | apply Kd.R_alloc | apply Kd.R_drewN | apply Kd.R_drew)); exact HO182.out), z_HO185, z_HO188, fun h0_ => absurd ((hoff 19 (by kernel_rfl)).symm.trans h0_) (by decide), fun h0_ => absurd ((hoff 20 (by kernel_rfl)).symm.trans h0_) (by decide)⟩
end Go.Proofs.Ytiicfblccklfhaa.PPG2
end
section
namespace Go.Proofs.Ytiicfblccklfhaa.PPG2
open Go.RowKit Go.Proofs.YtiicfblccklfhaaW.PrintWords Go.Proofs.YtiicfblccklfhaaW.PrintLast Go.Proofs.YtiicfblccklfhaaW.PrintMore
attribute [local go_sem] max2_int min2_int max_two min_two max_three min_three max_four min_four
open Go.Proofs.Ytiicfblccklfhaa.Ext Go.Proofs.Ytiicfblccklfhaa.PK Go.Proofs.Ytiicfblccklfhaa.PPF
set_option linter.unusedVariables false
set_option linter.unusedSimpArgs false
set_option maxHeartbeats 80000000 in
set_option maxRecDepth 100000 in
theorem rabbetlaw23_PredForms.calls_r3_r6 : rabbetlaw23_PredForms.calls_r3_c.2.2.2.2.2.2.1 := by
 intro k r w hu64 hu33 hu26 hu28 A1 y102 Ny102 y109 Ny109 y112 Ny112 y115 Ny115 y118 Ny118 y121 Ny121 y124 Ny124 y127 Ny127 y130 Ny130 y133 Ny133 y136 Ny136 y139 Ny139 y142 Ny142 y145 Ny145 y148 Ny148 y151 Ny151 y154 Ny154 y157 Ny157 xi0_ w3 w4 Ao6 co6 gb105 w7 GW105 GE105 gb106 w9 GW106 GE106 NB105_106 NB106_105 gb107 w10 GW107 GE107 NB105_107 NB107_105 NB106_107 NB107_106 hnb11 hnc11 hnb12 hnc12 hnb14 hnc14 gb108 w16 GW108 GE108 NB105_108 NB108_105 NB106_108 NB108_106 NB107_108 NB108_107 hnb17 hnc17 hnb18 hnc18 hnb19 hnc19 v110 w22 w25 w28 w31 w34 w36 w38 w40 w43 w45 w49 w53 w57 w62 w65 Ao67 co67 Ao68 co68 Ao69 co69 Ao70 co70 Ao71 co71 Ao72 co72 Ao73 co73 Ao74 co74 Ao75 co75 Ao76 co76 Ao77 co77 Ao78 co78 Ao79 co79 Ao80 co80 w81 v158 w83 HO104 HO111 HO159 xi1_ xi2_ xi3_ xi4_ xi5_ xi6_ wr u0 u74 u75 u76 u77 u78 u79 u80 u81 u82 u83 u84 u85 u86 u87 u88 u89 u90 u91 u92 u93 u94 u95 u96 u97 u98 u99 u100 xi8_ xi9_ x8_1 k1 xi11_ HK1 c85b0 c107b0 c107b1 y165 Ny165 y168 Ny168 y171 Ny171 y174 Ny174 y177 Ny177 y180 Ny180 y183 Ny183 y186 Ny186 y189 Ny189 y192 Ny192 H' Ao108 co108 HO156 xi10_ xie0_ xie1_ xie2_ xie3_ hHeld HT_ HW_ w109 b a w' v166 v169 v172 v175 v178 v181 v184 v187 v190 m20_ ha Q_HO_106000 Q_HO_5 Q_HO_6 Q_HO_7 Q_BK105 Q_BK106 Q_BK107 Q_BK108 Q_HB Q_HO167 Q_HO170 Q_HO173 Q_HO176 Q_HO179 Q_HO182 Q_HO185 Q_HO188 Q_HO191 Q_X20_ hb_ hon hoff
 refine ⟨_, rfl, fun K hK => ?_⟩
 have e115 : a.tmps[115]? = some (.agg #[.string (⟨#[116]⟩ : ByteArray), .int .i64 1, .int .i64 2, .int .i64 1, .string (⟨#[]⟩ : ByteArray), .bool false, .bool false]) := by rw [ha]; exact putSel_on (e := (14, 115, .agg #[.string (⟨#[116]⟩ : ByteArray), .int .i64 1, .int .i64 2, .int .i64 1, .string (⟨#[]⟩ : ByteArray), .bool false, .bool false])) 14 rfl rfl (hon 14 (by kernel_rfl)) rfl
 replace ha := Aside0.mk ha
 have HO_106000 := Aside0.mk Q_HO_106000
 have HO_5 := Aside0.mk Q_HO_5
 have HO_6 := Aside0.mk Q_HO_6
 have HO_7 := Aside0.mk Q_HO_7
 have BK105 := Aside0.mk Q_BK105
 have BK106 := Aside0.mk Q_BK106
 have BK107 := Aside0.mk Q_BK107
 have BK108 := Aside0.mk Q_BK108
 have HB := Aside0.mk Q_HB
 refine Kd.R_lit_step k28 _ 28 ?hg (N := 116) ?hd (xs := ([(⟨(⟨#[116]⟩ : ByteArray), 1, (⟨2, 1, (⟨#[]⟩ : ByteArray)⟩ : S26), false, false⟩ : S28)] : List (S28))) (inner := [.string (⟨#[116]⟩ : ByteArray), .int .i64 1, .int .i64 2, .int .i64 1, .string (⟨#[]⟩ : ByteArray), .bool false, .bool false]) (ok := fun _ => True) (okp := fun _ => True) ?hr ?hp (fun _ hk => hk) trivial (Below.refl _ _) (Nat.le_refl _) (by simp) ?_; (case hd => rfl); (case hg => rfl); (case hr => first | (go_simp; done) | (go_simp; rfl)); (case hp => exact (Reps.c7 (show Kd.M k28 _ _ _ (⟨(⟨#[116]⟩ : ByteArray), 1, (⟨2, 1, (⟨#[]⟩ : ByteArray)⟩ : S26), false, false⟩ : S28) [.string (⟨#[116]⟩ : ByteArray), .int .i64 1, .int .i64 2, .int .i64 1, .string (⟨#[]⟩ : ByteArray), .bool false, .bool false] from (k28_mkM _ _ _ (⟨(⟨#[116]⟩ : ByteArray), 1, (⟨2, 1, (⟨#[]⟩ : ByteArray)⟩ : S26), false, false⟩ : S28) )) (Reps.none _ _)))
 intro v184 w110 ho111 hb hg_ hnew_
 clear hg_ hnew_
 (first | rw [← Ny183.out] at ho111 | (simp only [Int.reduceToNat] at ho111; rw [← Ny183.out] at ho111))
 have n0_ := qR HO_5 hb
 have n1_ := Aside0.mk (Kd.N_elder' (by (with_reducible repeat (first | apply Kd.N_alloc | apply Kd.N_drewN | apply Kd.N_drew)); exact HO_6.out) (Kd.R_base ho111) hb)
 have n2_ := qR HO_7 hb
 have n3_ := qR HO_106000 hb
 have n4_ := Aside0.mk (Kd.R_lower ho111 (qZ HB))
 have n5_ := qB BK105 hb
 have n6_ := qB BK106 hb
 have n7_ := qB BK107 hb
 have n8_ := qB BK108 hb
 have n9_ := qS HB hb
 have z_HO167 := fun (h0_ : b 0 = true) (h1_ : b 19 = false) => (show Kd.R k28 28 w110 w.heap.size (fun _ => True) v166 y165 from by first | exact (Kd.R_elder' (by (with_reducible repeat (first | apply Kd.R_alloc | apply Kd.R_drewN | apply Kd.R_drew)); exact (Q_HO167 h0_ h1_)) (Kd.R_base ho111) hb) | exact Kd.R_mono (Kd.R_elder' (by (with_reducible repeat (first | apply Kd.R_alloc | apply Kd.R_drewN | apply Kd.R_drew)); exact (Q_HO167 h0_ h1_)) (Kd.R_base ho111) hb) (fun _ h_ => by first | trivial | exact h_ | exact h_.1))
 have z_HO170 := fun (h0_ : b 2 = true) (h1_ : b 19 = false) => (show Kd.R k28 28 w110 w.heap.size (fun _ => True) v169 y168 from by first | exact (Kd.R_elder' (by (with_reducible repeat (first | apply Kd.R_alloc | apply Kd.R_drewN | apply Kd.R_drew)); exact (Q_HO170 h0_ h1_)) (Kd.R_base ho111) hb) | exact Kd.R_mono (Kd.R_elder' (by (with_reducible repeat (first | apply Kd.R_alloc | apply Kd.R_drewN | apply Kd.R_drew)); exact (Q_HO170 h0_ h1_)) (Kd.R_base ho111) hb) (fun _ h_ => by first | trivial | exact h_ | exact h_.1))
 have z_HO173 := fun (h0_ : b 4 = true) (h1_ : b 19 = false) => (show Kd.R k28 28 w110 w.heap.size (fun _ => True) v172 y171 from by first | exact (Kd.R_elder' (by (with_reducible repeat (first | apply Kd.R_alloc | apply Kd.R_drewN | apply Kd.R_drew)); exact (Q_HO173 h0_ h1_)) (Kd.R_base ho111) hb) | exact Kd.R_mono (Kd.R_elder' (by (with_reducible repeat (first | apply Kd.R_alloc | apply Kd.R_drewN | apply Kd.R_drew)); exact (Q_HO173 h0_ h1_)) (Kd.R_base ho111) hb) (fun _ h_ => by first | trivial | exact h_ | exact h_.1))
 have z_HO176 := fun (h0_ : b 7 = true) (h1_ : b 19 = false) => (show Kd.R k28 28 w110 w.heap.size (fun _ => True) v175 y174 from by first | exact (Kd.R_elder' (by (with_reducible repeat (first | apply Kd.R_alloc | apply Kd.R_drewN | apply Kd.R_drew)); exact (Q_HO176 h0_ h1_)) (Kd.R_base ho111) hb) | exact Kd.R_mono (Kd.R_elder' (by (with_reducible repeat (first | apply Kd.R_alloc | apply Kd.R_drewN | apply Kd.R_drew)); exact (Q_HO176 h0_ h1_)) (Kd.R_base ho111) hb) (fun _ h_ => by first | trivial | exact h_ | exact h_.1))
 have z_HO179 := fun (h0_ : b 9 = true) (h1_ : b 19 = false) => (show Kd.R k28 28 w110 w.heap.size (fun _ => True) v178 y177 from by first | exact (Kd.R_elder' (by (with_reducible repeat (first | apply Kd.R_alloc | apply Kd.R_drewN | apply Kd.R_drew)); exact (Q_HO179 h0_ h1_)) (Kd.R_base ho111) hb) | exact Kd.R_mono (Kd.R_elder' (by (with_reducible repeat (first | apply Kd.R_alloc | apply Kd.R_drewN | apply Kd.R_drew)); exact (Q_HO179 h0_ h1_)) (Kd.R_base ho111) hb) (fun _ h_ => by first | trivial | exact h_ | exact h_.1))
 have z_HO182 := fun (h0_ : b 12 = true) (h1_ : b 19 = false) => (show Kd.R k28 28 w110 w.heap.size (fun _ => True) v181 y180 from by first | exact (Kd.R_elder' (by (with_reducible repeat (first | apply Kd.R_alloc | apply Kd.R_drewN | apply Kd.R_drew)); exact (Q_HO182 h0_ h1_)) (Kd.R_base ho111) hb) | exact Kd.R_mono (Kd.R_elder' (by (with_reducible repeat (first | apply Kd.R_alloc | apply Kd.R_drewN | apply Kd.R_drew)); exact (Q_HO182 h0_ h1_)) (Kd.R_base ho111) hb) (fun _ h_ => by first | trivial | exact h_ | exact h_.1))
 have z_HO188 := fun (h0_ : b 18 = true) (h1_ : b 19 = false) => (show Kd.R k28 28 w110 w.heap.size (fun _ => True) v187 y186 from by first | exact (Kd.R_elder' (by (with_reducible repeat (first | apply Kd.R_alloc | apply Kd.R_drewN | apply Kd.R_drew)); exact (Q_HO188 h0_ h1_)) (Kd.R_base ho111) hb) | exact Kd.R_mono (Kd.R_elder' (by (with_reducible repeat (first | apply Kd.R_alloc | apply Kd.R_drewN | apply Kd.R_drew)); exact (Q_HO188 h0_ h1_)) (Kd.R_base ho111) hb) (fun _ h_ => by first | trivial | exact h_ | exact h_.1))
 clear HO_5
 clear HO_6
 clear HO_7
 clear HO_106000
 clear BK105
 clear BK106
 clear BK107
 clear BK108
 clear HB
 have HO_5 := n0_
 have HO_6 := n1_
 have HO_7 := n2_
 have HO_106000 := n3_
 have HO185 := n4_
 have BK105 := n5_
 have BK106 := n6_
 have BK107 := n7_
 have BK108 := n8_
 have HB := n9_
 clear n0_ n1_ n2_ n3_ n4_ n5_ n6_ n7_ n8_ n9_
 clear hb ho111
 refine hK.out _ _ ⟨v166, v169, v172, v175, v178, v181, v184, v187, v190, m20_, (by rw [ha.out]; exact putSel_upk 15 hb_ rfl rfl rfl), (by (with_reducible repeat (first | apply Kd.R_alloc | apply Kd.R_drewN | apply Kd.R_drew)); exact HO_106000.out), (by (with_reducible repeat (first | apply Kd.R_alloc | apply Kd.R_drewN | apply Kd.R_drew)); exact HO_5.out), (by (with_reducible repeat (first | apply Kd.N_alloc | apply Kd.N_drewN | apply Kd.N_drew)); exact Kd.N_mono HO_6.out (fun _ hk => hk.1)), (by (with_reducible repeat (first | apply Kd.R_alloc | apply Kd.R_drewN | apply Kd.R_drew)); exact HO_7.out), (by (with_reducible repeat (first | refine blk_drewN ?_ _ | refine blk_drew ?_ | refine blk_alloc ?_ _)); exact BK105.out), (by (with_reducible repeat (first | refine blk_drewN ?_ _ | refine blk_drew ?_ | refine blk_alloc ?_ _)); exact BK106.out), (by (with_reducible repeat (first | refine blk_drewN ?_ _ | refine blk_drew ?_ | refine blk_alloc ?_ _)); exact BK107.out), (by (with_reducible repeat (first | refine blk_drewN ?_ _ | refine blk_drew ?_ | refine blk_alloc ?_ _)); exact BK108.out), (by repeat (first | (with_reducible first | exact HB.out | apply below_alloc | apply pw_below_drewN | apply below_drew1 | refine below_set ?_ GE105.out | refine below_set ?_ GE106.out | refine below_set ?_ GE107.out | refine below_set ?_ GE108.out) | exact HB.out)), z_HO167, z_HO170, z_HO173, z_HO176, z_HO179, z_HO182, fun _ _ => (by (with_reducible repeat (first | apply Kd.R_alloc | apply Kd.R_drewN | apply Kd.R_drew)); exact HO185.out), z_HO188, fun h0_ => absurd ((hoff 19 (by kernel_rfl)).symm.trans h0_) (by decide), fun h0_ => absurd ((hoff 20 (by kernel_rfl)).symm.trans h0_) (by decide)⟩
end Go.Proofs.Ytiicfblccklfhaa.PPG2
end
section
namespace Go.Proofs.Ytiicfblccklfhaa.PPG2
open Go.RowKit Go.Proofs.YtiicfblccklfhaaW.PrintWords Go.Proofs.YtiicfblccklfhaaW.PrintLast Go.Proofs.YtiicfblccklfhaaW.PrintMore
attribute [local go_sem] max2_int min2_int max_two min_two max_three min_three max_four min_four
open Go.Proofs.Ytiicfblccklfhaa.Ext Go.Proofs.Ytiicfblccklfhaa.PK Go.Proofs.Ytiicfblccklfhaa.PPF
set_option linter.unusedVariables false
set_option linter.unusedSimpArgs false
set_option maxHeartbeats 80000000 in
set_option maxRecDepth 100000 in
theorem rabbetlaw23_PredForms.calls_r3_r7 : rabbetlaw23_PredForms.calls_r3_c.2.2.2.2.2.2.2.1 := by
 intro k r w hu64 hu33 hu26 hu28 A1 y102 Ny102 y109 Ny109 y112 Ny112 y115 Ny115 y118 Ny118 y121 Ny121 y124 Ny124 y127 Ny127 y130 Ny130 y133 Ny133 y136 Ny136 y139 Ny139 y142 Ny142 y145 Ny145 y148 Ny148 y151 Ny151 y154 Ny154 y157 Ny157 xi0_ w3 w4 Ao6 co6 gb105 w7 GW105 GE105 gb106 w9 GW106 GE106 NB105_106 NB106_105 gb107 w10 GW107 GE107 NB105_107 NB107_105 NB106_107 NB107_106 hnb11 hnc11 hnb12 hnc12 hnb14 hnc14 gb108 w16 GW108 GE108 NB105_108 NB108_105 NB106_108 NB108_106 NB107_108 NB108_107 hnb17 hnc17 hnb18 hnc18 hnb19 hnc19 v110 w22 w25 w28 w31 w34 w36 w38 w40 w43 w45 w49 w53 w57 w62 w65 Ao67 co67 Ao68 co68 Ao69 co69 Ao70 co70 Ao71 co71 Ao72 co72 Ao73 co73 Ao74 co74 Ao75 co75 Ao76 co76 Ao77 co77 Ao78 co78 Ao79 co79 Ao80 co80 w81 v158 w83 HO104 HO111 HO159 xi1_ xi2_ xi3_ xi4_ xi5_ xi6_ wr u0 u74 u75 u76 u77 u78 u79 u80 u81 u82 u83 u84 u85 u86 u87 u88 u89 u90 u91 u92 u93 u94 u95 u96 u97 u98 u99 u100 xi8_ xi9_ x8_1 k1 xi11_ HK1 c85b0 c107b0 c107b1 y165 Ny165 y168 Ny168 y171 Ny171 y174 Ny174 y177 Ny177 y180 Ny180 y183 Ny183 y186 Ny186 y189 Ny189 y192 Ny192 H' Ao108 co108 HO156 xi10_ xie0_ xie1_ xie2_ xie3_ hHeld HT_ HW_ w109 b a w' v166 v169 v172 v175 v178 v181 v184 v187 v190 m20_ ha Q_HO_106000 Q_HO_5 Q_HO_6 Q_HO_7 Q_BK105 Q_BK106 Q_BK107 Q_BK108 Q_HB Q_HO167 Q_HO170 Q_HO173 Q_HO176 Q_HO179 Q_HO182 Q_HO185 Q_HO188 Q_HO191 Q_X20_ hb_ hon hoff
 refine ⟨_, rfl, fun K hK => ?_⟩
 have e117 : a.tmps[117]? = some (.agg #[.string (⟨#[120]⟩ : ByteArray), .int .i64 7, .int .i64 0, .int .i64 0, .string (⟨#[]⟩ : ByteArray), .bool false, .bool false]) := by rw [ha]; exact putSel_on (e := (16, 117, .agg #[.string (⟨#[120]⟩ : ByteArray), .int .i64 7, .int .i64 0, .int .i64 0, .string (⟨#[]⟩ : ByteArray), .bool false, .bool false])) 16 rfl rfl (hon 16 (by kernel_rfl)) rfl
 have e118 : a.tmps[118]? = some (.agg #[.string (⟨#[105]⟩ : ByteArray), .int .i64 0, .int .i64 0, .int .i64 0, .string (⟨#[]⟩ : ByteArray), .bool false, .bool false]) := by rw [ha]; exact putSel_on (e := (17, 118, .agg #[.string (⟨#[105]⟩ : ByteArray), .int .i64 0, .int .i64 0, .int .i64 0, .string (⟨#[]⟩ : ByteArray), .bool false, .bool false])) 17 rfl rfl (hon 17 (by kernel_rfl)) rfl
 replace ha := Aside0.mk ha
 have HO_106000 := Aside0.mk Q_HO_106000
 have HO_5 := Aside0.mk Q_HO_5
 have HO_6 := Aside0.mk Q_HO_6
 have HO_7 := Aside0.mk Q_HO_7
 have BK105 := Aside0.mk Q_BK105
 have BK106 := Aside0.mk Q_BK106
 have BK107 := Aside0.mk Q_BK107
 have BK108 := Aside0.mk Q_BK108
 have HB := Aside0.mk Q_HB
 refine Kd.R_lit_step k28 _ 28 ?hg (N := 119) ?hd (xs := ([(⟨(⟨#[120]⟩ : ByteArray), 7, (⟨0, 0, (⟨#[]⟩ : ByteArray)⟩ : S26), false, false⟩ : S28), (⟨(⟨#[105]⟩ : ByteArray), 0, (⟨0, 0, (⟨#[]⟩ : ByteArray)⟩ : S26), false, false⟩ : S28)] : List (S28))) (inner := [.string (⟨#[120]⟩ : ByteArray), .int .i64 7, .int .i64 0, .int .i64 0, .string (⟨#[]⟩ : ByteArray), .bool false, .bool false, .string (⟨#[105]⟩ : ByteArray), .int .i64 0, .int .i64 0, .int .i64 0, .string (⟨#[]⟩ : ByteArray), .bool false, .bool false]) (ok := fun _ => True) (okp := fun _ => True) ?hr ?hp (fun _ hk => hk) trivial (Below.refl _ _) (Nat.le_refl _) (by simp) ?_; (case hd => rfl); (case hg => rfl); (case hr => first | (go_simp; done) | (go_simp; rfl)); (case hp => exact (Reps.c7 (show Kd.M k28 _ _ _ (⟨(⟨#[120]⟩ : ByteArray), 7, (⟨0, 0, (⟨#[]⟩ : ByteArray)⟩ : S26), false, false⟩ : S28) [.string (⟨#[120]⟩ : ByteArray), .int .i64 7, .int .i64 0, .int .i64 0, .string (⟨#[]⟩ : ByteArray), .bool false, .bool false] from (k28_mkM _ _ _ (⟨(⟨#[120]⟩ : ByteArray), 7, (⟨0, 0, (⟨#[]⟩ : ByteArray)⟩ : S26), false, false⟩ : S28) )) (Reps.c7 (show Kd.M k28 _ _ _ (⟨(⟨#[105]⟩ : ByteArray), 0, (⟨0, 0, (⟨#[]⟩ : ByteArray)⟩ : S26), false, false⟩ : S28) [.string (⟨#[105]⟩ : ByteArray), .int .i64 0, .int .i64 0, .int .i64 0, .string (⟨#[]⟩ : ByteArray), .bool false, .bool false] from (k28_mkM _ _ _ (⟨(⟨#[105]⟩ : ByteArray), 0, (⟨0, 0, (⟨#[]⟩ : ByteArray)⟩ : S26), false, false⟩ : S28) )) (Reps.none _ _))))
 intro v187 w110 ho111 hb hg_ hnew_
 clear hg_ hnew_
 (first | rw [← Ny186.out] at ho111 | (simp only [Int.reduceToNat] at ho111; rw [← Ny186.out] at ho111))
 have n0_ := qR HO_5 hb
 have n1_ := Aside0.mk (Kd.N_elder' (by (with_reducible repeat (first | apply Kd.N_alloc | apply Kd.N_drewN | apply Kd.N_drew)); exact HO_6.out) (Kd.R_base ho111) hb)
 have n2_ := qR HO_7 hb
 have n3_ := qR HO_106000 hb
 have n4_ := Aside0.mk (Kd.R_lower ho111 (qZ HB))
 have n5_ := qB BK105 hb
 have n6_ := qB BK106 hb
 have n7_ := qB BK107 hb
 have n8_ := qB BK108 hb
 have n9_ := qS HB hb
 have z_HO167 := fun (h0_ : b 0 = true) (h1_ : b 19 = false) => (show Kd.R k28 28 w110 w.heap.size (fun _ => True) v166 y165 from by first | exact (Kd.R_elder' (by (with_reducible repeat (first | apply Kd.R_alloc | apply Kd.R_drewN | apply Kd.R_drew)); exact (Q_HO167 h0_ h1_)) (Kd.R_base ho111) hb) | exact Kd.R_mono (Kd.R_elder' (by (with_reducible repeat (first | apply Kd.R_alloc | apply Kd.R_drewN | apply Kd.R_drew)); exact (Q_HO167 h0_ h1_)) (Kd.R_base ho111) hb) (fun _ h_ => by first | trivial | exact h_ | exact h_.1))
 have z_HO170 := fun (h0_ : b 2 = true) (h1_ : b 19 = false) => (show Kd.R k28 28 w110 w.heap.size (fun _ => True) v169 y168 from by first | exact (Kd.R_elder' (by (with_reducible repeat (first | apply Kd.R_alloc | apply Kd.R_drewN | apply Kd.R_drew)); exact (Q_HO170 h0_ h1_)) (Kd.R_base ho111) hb) | exact Kd.R_mono (Kd.R_elder' (by (with_reducible repeat (first | apply Kd.R_alloc | apply Kd.R_drewN | apply Kd.R_drew)); exact (Q_HO170 h0_ h1_)) (Kd.R_base ho111) hb) (fun _ h_ => by first | trivial | exact h_ | exact h_.1))
 have z_HO173 := fun (h0_ : b 4 = true) (h1_ : b 19 = false) => (show Kd.R k28 28 w110 w.heap.size (fun _ => True) v172 y171 from by first | exact (Kd.R_elder' (by (with_reducible repeat (first | apply Kd.R_alloc | apply Kd.R_drewN | apply Kd.R_drew)); exact (Q_HO173 h0_ h1_)) (Kd.R_base ho111) hb) | exact Kd.R_mono (Kd.R_elder' (by (with_reducible repeat (first | apply Kd.R_alloc | apply Kd.R_drewN | apply Kd.R_drew)); exact (Q_HO173 h0_ h1_)) (Kd.R_base ho111) hb) (fun _ h_ => by first | trivial | exact h_ | exact h_.1))
 have z_HO176 := fun (h0_ : b 7 = true) (h1_ : b 19 = false) => (show Kd.R k28 28 w110 w.heap.size (fun _ => True) v175 y174 from by first | exact (Kd.R_elder' (by (with_reducible repeat (first | apply Kd.R_alloc | apply Kd.R_drewN | apply Kd.R_drew)); exact (Q_HO176 h0_ h1_)) (Kd.R_base ho111) hb) | exact Kd.R_mono (Kd.R_elder' (by (with_reducible repeat (first | apply Kd.R_alloc | apply Kd.R_drewN | apply Kd.R_drew)); exact (Q_HO176 h0_ h1_)) (Kd.R_base ho111) hb) (fun _ h_ => by first | trivial | exact h_ | exact h_.1))
 have z_HO179 := fun (h0_ : b 9 = true) (h1_ : b 19 = false) => (show Kd.R k28 28 w110 w.heap.size (fun _ => True) v178 y177 from by first | exact (Kd.R_elder' (by (with_reducible repeat (first | apply Kd.R_alloc | apply Kd.R_drewN | apply Kd.R_drew)); exact (Q_HO179 h0_ h1_)) (Kd.R_base ho111) hb) | exact Kd.R_mono (Kd.R_elder' (by (with_reducible repeat (first | apply Kd.R_alloc | apply Kd.R_drewN | apply Kd.R_drew)); exact (Q_HO179 h0_ h1_)) (Kd.R_base ho111) hb) (fun _ h_ => by first | trivial | exact h_ | exact h_.1))
 have z_HO182 := fun (h0_ : b 12 = true) (h1_ : b 19 = false) => (show Kd.R k28 28 w110 w.heap.size (fun _ => True) v181 y180 from by first | exact (Kd.R_elder' (by (with_reducible repeat (first | apply Kd.R_alloc | apply Kd.R_drewN | apply Kd.R_drew)); exact (Q_HO182 h0_ h1_)) (Kd.R_base ho111) hb) | exact Kd.R_mono (Kd.R_elder' (by (with_reducible repeat (first | apply Kd.R_alloc | apply Kd.R_drewN | apply Kd.R_drew)); exact (Q_HO182 h0_ h1_)) (Kd.R_base ho111) hb) (fun _ h_ => by first | trivial | exact h_ | exact h_.1))
 have z_HO185 := fun (h0_ : b 15 = true) (h1_ : b 19 = false) => (show Kd.R k28 28 w110 w.heap.size (fun _ => True) v184 y183 from by first | exact (Kd.R_elder' (by (with_reducible repeat (first | apply Kd.R_alloc | apply Kd.R_drewN | apply Kd.R_drew)); exact (Q_HO185 h0_ h1_)) (Kd.R_base ho111) hb) | exact Kd.R_mono (Kd.R_elder' (by (with_reducible repeat (first | apply Kd.R_alloc | apply Kd.R_drewN | apply Kd.R_drew)); exact (Q_HO185 h0_ h1_)) (Kd.R_base ho111) hb) (fun _ h_ => by first | trivial | exact h_ | exact h_.1))
 clear HO_5
 clear HO_6
 clear HO_7
 clear HO_106000
 clear BK105
 clear BK106
 clear BK107
 clear BK108
 clear HB
 have HO_5 := n0_
 have HO_6 := n1_
 have HO_7 := n2_
 have HO_106000 := n3_
 have HO188 := n4_
 have BK105 := n5_
 have BK106 := n6_
 have BK107 := n7_
 have BK108 := n8_
 have HB := n9_
 clear n0_ n1_ n2_ n3_ n4_ n5_ n6_ n7_ n8_ n9_
 clear hb ho111
 refine hK.out _ _ ⟨v166, v169, v172, v175, v178, v181, v184, v187, v190, m20_, (by rw [ha.out]; exact putSel_upk 18 hb_ rfl rfl rfl), (by (with_reducible repeat (first | apply Kd.R_alloc | apply Kd.R_drewN | apply Kd.R_drew)); exact HO_106000.out), (by (with_reducible repeat (first | apply Kd.R_alloc | apply Kd.R_drewN | apply Kd.R_drew)); exact HO_5.out), (by (with_reducible repeat (first | apply Kd.N_alloc | apply Kd.N_drewN | apply Kd.N_drew)); exact Kd.N_mono HO_6.out (fun _ hk => hk.1)), (by (with_reducible repeat (first | apply Kd.R_alloc | apply Kd.R_drewN | apply Kd.R_drew)); exact HO_7.out), (by (with_reducible repeat (first | refine blk_drewN ?_ _ | refine blk_drew ?_ | refine blk_alloc ?_ _)); exact BK105.out), (by (with_reducible repeat (first | refine blk_drewN ?_ _ | refine blk_drew ?_ | refine blk_alloc ?_ _)); exact BK106.out), (by (with_reducible repeat (first | refine blk_drewN ?_ _ | refine blk_drew ?_ | refine blk_alloc ?_ _)); exact BK107.out), (by (with_reducible repeat (first | refine blk_drewN ?_ _ | refine blk_drew ?_ | refine blk_alloc ?_ _)); exact BK108.out), (by repeat (first | (with_reducible first | exact HB.out | apply below_alloc | apply pw_below_drewN | apply below_drew1 | refine below_set ?_ GE105.out | refine below_set ?_ GE106.out | refine below_set ?_ GE107.out | refine below_set ?_ GE108.out) | exact HB.out)), z_HO167, z_HO170, z_HO173, z_HO176, z_HO179, z_HO182, z_HO185, fun _ _ => (by (with_reducible repeat (first | apply Kd.R_alloc | apply Kd.R_drewN | apply Kd.R_drew)); exact HO188.out), fun h0_ => absurd ((hoff 19 (by kernel_rfl)).symm.trans h0_) (by decide), fun h0_ => absurd ((hoff 20 (by kernel_rfl)).symm.trans h0_) (by decide)⟩
end Go.Proofs.Ytiicfblccklfhaa.PPG2
end
section
namespace Go.Proofs.Ytiicfblccklfhaa.PPG2
open Go.RowKit Go.Proofs.YtiicfblccklfhaaW.PrintWords Go.Proofs.YtiicfblccklfhaaW.PrintLast Go.Proofs.YtiicfblccklfhaaW.PrintMore
attribute [local go_sem] max2_int min2_int max_two min_two max_three min_three max_four min_four
open Go.Proofs.Ytiicfblccklfhaa.Ext Go.Proofs.Ytiicfblccklfhaa.PK Go.Proofs.Ytiicfblccklfhaa.PPF
set_option linter.unusedVariables false
set_option linter.unusedSimpArgs false
set_option maxHeartbeats 80000000 in
set_option maxRecDepth 100000 in
theorem rabbetlaw23_PredForms.calls_r3_r8 : rabbetlaw23_PredForms.calls_r3_c.2.2.2.2.2.2.2.2.1 := by
 intro k r w hu64 hu33 hu26 hu28 A1 y102 Ny102 y109 Ny109 y112 Ny112 y115 Ny115 y118 Ny118 y121 Ny121 y124 Ny124 y127 Ny127 y130 Ny130 y133 Ny133 y136 Ny136 y139 Ny139 y142 Ny142 y145 Ny145 y148 Ny148 y151 Ny151 y154 Ny154 y157 Ny157 xi0_ w3 w4 Ao6 co6 gb105 w7 GW105 GE105 gb106 w9 GW106 GE106 NB105_106 NB106_105 gb107 w10 GW107 GE107 NB105_107 NB107_105 NB106_107 NB107_106 hnb11 hnc11 hnb12 hnc12 hnb14 hnc14 gb108 w16 GW108 GE108 NB105_108 NB108_105 NB106_108 NB108_106 NB107_108 NB108_107 hnb17 hnc17 hnb18 hnc18 hnb19 hnc19 v110 w22 w25 w28 w31 w34 w36 w38 w40 w43 w45 w49 w53 w57 w62 w65 Ao67 co67 Ao68 co68 Ao69 co69 Ao70 co70 Ao71 co71 Ao72 co72 Ao73 co73 Ao74 co74 Ao75 co75 Ao76 co76 Ao77 co77 Ao78 co78 Ao79 co79 Ao80 co80 w81 v158 w83 HO104 HO111 HO159 xi1_ xi2_ xi3_ xi4_ xi5_ xi6_ wr u0 u74 u75 u76 u77 u78 u79 u80 u81 u82 u83 u84 u85 u86 u87 u88 u89 u90 u91 u92 u93 u94 u95 u96 u97 u98 u99 u100 xi8_ xi9_ x8_1 k1 xi11_ HK1 c85b0 c107b0 c107b1 y165 Ny165 y168 Ny168 y171 Ny171 y174 Ny174 y177 Ny177 y180 Ny180 y183 Ny183 y186 Ny186 y189 Ny189 y192 Ny192 H' Ao108 co108 HO156 xi10_ xie0_ xie1_ xie2_ xie3_ hHeld HT_ HW_ w109 b a w' v166 v169 v172 v175 v178 v181 v184 v187 v190 m20_ ha Q_HO_106000 Q_HO_5 Q_HO_6 Q_HO_7 Q_BK105 Q_BK106 Q_BK107 Q_BK108 Q_HB Q_HO167 Q_HO170 Q_HO173 Q_HO176 Q_HO179 Q_HO182 Q_HO185 Q_HO188 Q_HO191 Q_X20_ hb_ hon hoff
 refine ⟨_, rfl, fun K hK => ?_⟩
 have e101 : a.tmps[101]? = some (v166) := by rw [ha]; exact putSel_on (e := (0, 101, v166)) 0 rfl rfl (hon 0 (by kernel_rfl)) rfl
 have e103 : a.tmps[103]? = some (v169) := by rw [ha]; exact putSel_on (e := (2, 103, v169)) 2 rfl rfl (hon 2 (by kernel_rfl)) rfl
 have e105 : a.tmps[105]? = some (v172) := by rw [ha]; exact putSel_on (e := (4, 105, v172)) 4 rfl rfl (hon 4 (by kernel_rfl)) rfl
 have e108 : a.tmps[108]? = some (v175) := by rw [ha]; exact putSel_on (e := (7, 108, v175)) 7 rfl rfl (hon 7 (by kernel_rfl)) rfl
 have e110 : a.tmps[110]? = some (v178) := by rw [ha]; exact putSel_on (e := (9, 110, v178)) 9 rfl rfl (hon 9 (by kernel_rfl)) rfl
 have e113 : a.tmps[113]? = some (v181) := by rw [ha]; exact putSel_on (e := (12, 113, v181)) 12 rfl rfl (hon 12 (by kernel_rfl)) rfl
 have e116 : a.tmps[116]? = some (v184) := by rw [ha]; exact putSel_on (e := (15, 116, v184)) 15 rfl rfl (hon 15 (by kernel_rfl)) rfl
 have e119 : a.tmps[119]? = some (v187) := by rw [ha]; exact putSel_on (e := (18, 119, v187)) 18 rfl rfl (hon 18 (by kernel_rfl)) rfl
 replace ha := Aside0.mk ha
 have HO_106000 := Aside0.mk Q_HO_106000
 have HO_5 := Aside0.mk Q_HO_5
 have HO_6 := Aside0.mk Q_HO_6
 have HO_7 := Aside0.mk Q_HO_7
 have BK105 := Aside0.mk Q_BK105
 have BK106 := Aside0.mk Q_BK106
 have BK107 := Aside0.mk Q_BK107
 have BK108 := Aside0.mk Q_BK108
 have HB := Aside0.mk Q_HB
 have HO167 := Aside0.mk (Q_HO167 (hon 0 (by kernel_rfl)) hb_)
 have HO170 := Aside0.mk (Q_HO170 (hon 2 (by kernel_rfl)) hb_)
 have HO173 := Aside0.mk (Q_HO173 (hon 4 (by kernel_rfl)) hb_)
 have HO176 := Aside0.mk (Q_HO176 (hon 7 (by kernel_rfl)) hb_)
 have HO179 := Aside0.mk (Q_HO179 (hon 9 (by kernel_rfl)) hb_)
 have HO182 := Aside0.mk (Q_HO182 (hon 12 (by kernel_rfl)) hb_)
 have HO185 := Aside0.mk (Q_HO185 (hon 15 (by kernel_rfl)) hb_)
 have HO188 := Aside0.mk (Q_HO188 (hon 18 (by kernel_rfl)) hb_)
 obtain ⟨Ao127, co127, eo127⟩ := Kd.R_slice HO167.out
 (first | subst eo127 | (injection eo127 with f1_ f2_ f3_; have f4_ := f1_.symm; have f5_ := f3_.symm; clear f1_ f2_ f3_; subst f4_; subst f5_))
 obtain ⟨Ao128, co128, eo128⟩ := Kd.R_slice HO170.out
 (first | subst eo128 | (injection eo128 with f1_ f2_ f3_; have f4_ := f1_.symm; have f5_ := f3_.symm; clear f1_ f2_ f3_; subst f4_; subst f5_))
 obtain ⟨Ao129, co129, eo129⟩ := Kd.R_slice HO173.out
 (first | subst eo129 | (injection eo129 with f1_ f2_ f3_; have f4_ := f1_.symm; have f5_ := f3_.symm; clear f1_ f2_ f3_; subst f4_; subst f5_))
 obtain ⟨Ao130, co130, eo130⟩ := Kd.R_slice HO176.out
 (first | subst eo130 | (injection eo130 with f1_ f2_ f3_; have f4_ := f1_.symm; have f5_ := f3_.symm; clear f1_ f2_ f3_; subst f4_; subst f5_))
 obtain ⟨Ao131, co131, eo131⟩ := Kd.R_slice HO179.out
 (first | subst eo131 | (injection eo131 with f1_ f2_ f3_; have f4_ := f1_.symm; have f5_ := f3_.symm; clear f1_ f2_ f3_; subst f4_; subst f5_))
 obtain ⟨Ao132, co132, eo132⟩ := Kd.R_slice HO182.out
 (first | subst eo132 | (injection eo132 with f1_ f2_ f3_; have f4_ := f1_.symm; have f5_ := f3_.symm; clear f1_ f2_ f3_; subst f4_; subst f5_))
 obtain ⟨Ao133, co133, eo133⟩ := Kd.R_slice HO185.out
 (first | subst eo133 | (injection eo133 with f1_ f2_ f3_; have f4_ := f1_.symm; have f5_ := f3_.symm; clear f1_ f2_ f3_; subst f4_; subst f5_))
 obtain ⟨Ao134, co134, eo134⟩ := Kd.R_slice HO188.out
 (first | subst eo134 | (injection eo134 with f1_ f2_ f3_; have f4_ := f1_.symm; have f5_ := f3_.symm; clear f1_ f2_ f3_; subst f4_; subst f5_))
 refine Kd.N_lit_step (Kd.slice 28 k28) _ 23 ?hg (N' := 120) ?hd (xs := ([y165, y168, y171, y174, y177, y180, y183, y186] : List (List (S28)))) (inner := [.slice Ao127 y165.length co127, .slice Ao128 y168.length co128, .slice Ao129 y171.length co129, .slice Ao130 y174.length co130, .slice Ao131 y177.length co131, .slice Ao132 y180.length co132, .slice Ao133 y183.length co133, .slice Ao134 y186.length co134]) (ok := (fun k_ => some k_ ≠ (v110 : Value).ownBlock ∧ some k_ ≠ (.slice Ao108 y154.length co108 : Value).ownBlock ∧ some k_ ≠ (v158 : Value).ownBlock ∧ some k_ ≠ (.slice Ao6 y102.length co6 : Value).ownBlock ∧ k_ ≠ gb105 ∧ k_ ≠ gb106 ∧ k_ ≠ gb107 ∧ k_ ≠ gb108)) (okp := (fun k_ => some k_ ≠ (v110 : Value).ownBlock ∧ some k_ ≠ (.slice Ao108 y154.length co108 : Value).ownBlock ∧ some k_ ≠ (v158 : Value).ownBlock ∧ some k_ ≠ (.slice Ao6 y102.length co6 : Value).ownBlock ∧ k_ ≠ gb105 ∧ k_ ≠ gb106 ∧ k_ ≠ gb107 ∧ k_ ≠ gb108)) ?hr ?hp (fun _ hk => hk) ((show ∀ k_, w'.heap.size ≤ k_ → (fun k_ => some k_ ≠ (v110 : Value).ownBlock ∧ some k_ ≠ (.slice Ao108 y154.length co108 : Value).ownBlock ∧ some k_ ≠ (v158 : Value).ownBlock ∧ some k_ ≠ (.slice Ao6 y102.length co6 : Value).ownBlock ∧ k_ ≠ gb105 ∧ k_ ≠ gb106 ∧ k_ ≠ gb107 ∧ k_ ≠ gb108) k_ from fun k_ hk => ⟨Kd.fresh' (Kd.R_lt (by (with_reducible repeat (first | apply Kd.R_alloc | apply Kd.R_drewN | apply Kd.R_drew)); exact HO_5.out)) k_ hk, Kd.fresh' (Kd.N_lt (by (with_reducible repeat (first | apply Kd.N_alloc | apply Kd.N_drewN | apply Kd.N_drew)); exact HO_6.out)) k_ hk, Kd.fresh' (Kd.R_lt (by (with_reducible repeat (first | apply Kd.R_alloc | apply Kd.R_drewN | apply Kd.R_drew)); exact HO_7.out)) k_ hk, Kd.fresh' (Kd.R_lt (by (with_reducible repeat (first | apply Kd.R_alloc | apply Kd.R_drewN | apply Kd.R_drew)); exact HO_106000.out)) k_ hk, Kd.freshB (g := gb105) (o := .cells #[.slice Ao6 y102.length co6, .int .i64 2] 33 (0, 0)) (by (with_reducible repeat (first | refine blk_drewN ?_ _ | refine blk_drew ?_ | refine blk_alloc ?_ _)); exact BK105.out) k_ hk, Kd.freshB (g := gb106) (o := .cells #[.int .i64 2, .int .i64 1, .string (⟨#[]⟩ : ByteArray)] 26 (0, 0)) (by (with_reducible repeat (first | refine blk_drewN ?_ _ | refine blk_drew ?_ | refine blk_alloc ?_ _)); exact BK106.out) k_ hk, Kd.freshB (g := gb107) (o := .cells #[.int .i64 1, .int .i64 2, .string (⟨#[]⟩ : ByteArray)] 26 (0, 0)) (by (with_reducible repeat (first | refine blk_drewN ?_ _ | refine blk_drew ?_ | refine blk_alloc ?_ _)); exact BK107.out) k_ hk, Kd.freshB (g := gb108) (o := .cells #[.int .i64 4, .int .i64 0, .string (⟨#[98]⟩ : ByteArray)] 26 (0, 0)) (by (with_reducible repeat (first | refine blk_drewN ?_ _ | refine blk_drew ?_ | refine blk_alloc ?_ _)); exact BK108.out) k_ hk⟩) _ (Nat.le_refl _)) (Below.refl _ _) (Nat.le_refl _) (by simp) ?_; (case hd => rfl); (case hg => rfl); (case hr => first | (go_simp; done) | (go_simp; rfl)); (case hp => exact (Reps.one (show Kd.FK (Kd.slice 28 k28) _ _ y165 [.slice Ao127 y165.length co127] from (Kd.FK_slice_mk (Kd.R_reads' (Kd.R_mono (ok' := (fun k_ => some k_ ≠ (v110 : Value).ownBlock ∧ some k_ ≠ (.slice Ao108 y154.length co108 : Value).ownBlock ∧ some k_ ≠ (v158 : Value).ownBlock ∧ some k_ ≠ (.slice Ao6 y102.length co6 : Value).ownBlock ∧ k_ ≠ gb105 ∧ k_ ≠ gb106 ∧ k_ ≠ gb107 ∧ k_ ≠ gb108)) (Kd.R_types (Kd.R_types (Kd.R_types (Kd.R_types (Kd.R_apart' (Kd.R_apart' (Kd.R_apart' (Kd.R_apart' (HO167.out) (Kd.R_typed HO_5.out) (by decide)) (Kd.N_typed HO_6.out) (by decide)) (Kd.R_typed HO_7.out) (by decide)) (Kd.R_typed HO_106000.out) (by decide)) BK105.out (by decide)) BK106.out (by decide)) BK107.out (by decide)) BK108.out (by decide)) (fun k_ hk => ⟨hk.1.1.1.1.1.1.1.2, ⟨hk.1.1.1.1.1.1.2, ⟨hk.1.1.1.1.1.2, ⟨hk.1.1.1.1.2, ⟨hk.1.1.1.2, ⟨hk.1.1.2, ⟨hk.1.2, hk.2⟩⟩⟩⟩⟩⟩⟩))).2.1 (Kd.R_F (Kd.R_mono (ok' := (fun k_ => some k_ ≠ (v110 : Value).ownBlock ∧ some k_ ≠ (.slice Ao108 y154.length co108 : Value).ownBlock ∧ some k_ ≠ (v158 : Value).ownBlock ∧ some k_ ≠ (.slice Ao6 y102.length co6 : Value).ownBlock ∧ k_ ≠ gb105 ∧ k_ ≠ gb106 ∧ k_ ≠ gb107 ∧ k_ ≠ gb108)) (Kd.R_types (Kd.R_types (Kd.R_types (Kd.R_types (Kd.R_apart' (Kd.R_apart' (Kd.R_apart' (Kd.R_apart' (HO167.out) (Kd.R_typed HO_5.out) (by decide)) (Kd.N_typed HO_6.out) (by decide)) (Kd.R_typed HO_7.out) (by decide)) (Kd.R_typed HO_106000.out) (by decide)) BK105.out (by decide)) BK106.out (by decide)) BK107.out (by decide)) BK108.out (by decide)) (fun k_ hk => ⟨hk.1.1.1.1.1.1.1.2, ⟨hk.1.1.1.1.1.1.2, ⟨hk.1.1.1.1.1.2, ⟨hk.1.1.1.1.2, ⟨hk.1.1.1.2, ⟨hk.1.1.2, ⟨hk.1.2, hk.2⟩⟩⟩⟩⟩⟩⟩))))) (Reps.one (show Kd.FK (Kd.slice 28 k28) _ _ y168 [.slice Ao128 y168.length co128] from (Kd.FK_slice_mk (Kd.R_reads' (Kd.R_mono (ok' := (fun k_ => some k_ ≠ (v110 : Value).ownBlock ∧ some k_ ≠ (.slice Ao108 y154.length co108 : Value).ownBlock ∧ some k_ ≠ (v158 : Value).ownBlock ∧ some k_ ≠ (.slice Ao6 y102.length co6 : Value).ownBlock ∧ k_ ≠ gb105 ∧ k_ ≠ gb106 ∧ k_ ≠ gb107 ∧ k_ ≠ gb108)) (Kd.R_types (Kd.R_types (Kd.R_types (Kd.R_types (Kd.R_apart' (Kd.R_apart' (Kd.R_apart' (Kd.R_apart' (HO170.out) (Kd.R_typed HO_5.out) (by decide)) (Kd.N_typed HO_6.out) (by decide)) (Kd.R_typed HO_7.out) (by decide)) (Kd.R_typed HO_106000.out) (by decide)) BK105.out (by decide)) BK106.out (by decide)) BK107.out (by decide)) BK108.out (by decide)) (fun k_ hk => ⟨hk.1.1.1.1.1.1.1.2, ⟨hk.1.1.1.1.1.1.2, ⟨hk.1.1.1.1.1.2, ⟨hk.1.1.1.1.2, ⟨hk.1.1.1.2, ⟨hk.1.1.2, ⟨hk.1.2, hk.2⟩⟩⟩⟩⟩⟩⟩))).2.1 (Kd.R_F (Kd.R_mono (ok' := (fun k_ => some k_ ≠ (v110 : Value).ownBlock ∧ some k_ ≠ (.slice Ao108 y154.length co108 : Value).ownBlock ∧ some k_ ≠ (v158 : Value).ownBlock ∧ some k_ ≠ (.slice Ao6 y102.length co6 : Value).ownBlock ∧ k_ ≠ gb105 ∧ k_ ≠ gb106 ∧ k_ ≠ gb107 ∧ k_ ≠ gb108)) (Kd.R_types (Kd.R_types (Kd.R_types (Kd.R_types (Kd.R_apart' (Kd.R_apart' (Kd.R_apart' (Kd.R_apart' (HO170.out) (Kd.R_typed HO_5.out) (by decide)) (Kd.N_typed HO_6.out) (by decide)) (Kd.R_typed HO_7.out) (by decide)) (Kd.R_typed HO_106000.out) (by decide)) BK105.out (by decide)) BK106.out (by decide)) BK107.out (by decide)) BK108.out (by decide)) (fun k_ hk => ⟨hk.1.1.1.1.1.1.1.2, ⟨hk.1.1.1.1.1.1.2, ⟨hk.1.1.1.1.1.2, ⟨hk.1.1.1.1.2, ⟨hk.1.1.1.2, ⟨hk.1.1.2, ⟨hk.1.2, hk.2⟩⟩⟩⟩⟩⟩⟩))))) (Reps.one (show Kd.FK (Kd.slice 28 k28) _ _ y171 [.slice Ao129 y171.length co129] from (Kd.FK_slice_mk (Kd.R_reads' (Kd.R_mono (ok' := (fun k_ => some k_ ≠ (v110 : Value).ownBlock ∧ some k_ ≠ (.slice Ao108 y154.length co108 : Value).ownBlock ∧ some k_ ≠ (v158 : Value).ownBlock ∧ some k_ ≠ (.slice Ao6 y102.length co6 : Value).ownBlock ∧ k_ ≠ gb105 ∧ k_ ≠ gb106 ∧ k_ ≠ gb107 ∧ k_ ≠ gb108)) (Kd.R_types (Kd.R_types (Kd.R_types (Kd.R_types (Kd.R_apart' (Kd.R_apart' (Kd.R_apart' (Kd.R_apart' (HO173.out) (Kd.R_typed HO_5.out) (by decide)) (Kd.N_typed HO_6.out) (by decide)) (Kd.R_typed HO_7.out) (by decide)) (Kd.R_typed HO_106000.out) (by decide)) BK105.out (by decide)) BK106.out (by decide)) BK107.out (by decide)) BK108.out (by decide)) (fun k_ hk => ⟨hk.1.1.1.1.1.1.1.2, ⟨hk.1.1.1.1.1.1.2, ⟨hk.1.1.1.1.1.2, ⟨hk.1.1.1.1.2, ⟨hk.1.1.1.2, ⟨hk.1.1.2, ⟨hk.1.2, hk.2⟩⟩⟩⟩⟩⟩⟩))).2.1 (Kd.R_F (Kd.R_mono (ok' := (fun k_ => some k_ ≠ (v110 : Value).ownBlock ∧ some k_ ≠ (.slice Ao108 y154.length co108 : Value).ownBlock ∧ some k_ ≠ (v158 : Value).ownBlock ∧ some k_ ≠ (.slice Ao6 y102.length co6 : Value).ownBlock ∧ k_ ≠ gb105 ∧ k_ ≠ gb106 ∧ k_ ≠ gb107 ∧ k_ ≠ gb108)) (Kd.R_types (Kd.R_types (Kd.R_types (Kd.R_types (Kd.R_apart' (Kd.R_apart' (Kd.R_apart' (Kd.R_apart' (HO173.out) (Kd.R_typed HO_5.out) (by decide)) (Kd.N_typed HO_6.out) (by decide)) (Kd.R_typed HO_7.out) (by decide)) (Kd.R_typed HO_106000.out) (by decide)) BK105.out (by decide)) BK106.out (by decide)) BK107.out (by decide)) BK108.out (by decide)) (fun k_ hk => ⟨hk.1.1.1.1.1.1.1.2, ⟨hk.1.1.1.1.1.1.2, ⟨hk.1.1.1.1.1.2, ⟨hk.1.1.1.1.2, ⟨hk.1.1.1.2, ⟨hk.1.1.2, ⟨hk.1.2, hk.2⟩⟩⟩⟩⟩⟩⟩))))) (Reps.one (show Kd.FK (Kd.slice 28 k28) _ _ y174 [.slice Ao130 y174.length co130] from (Kd.FK_slice_mk (Kd.R_reads' (Kd.R_mono (ok' := (fun k_ => some k_ ≠ (v110 : Value).ownBlock ∧ some k_ ≠ (.slice Ao108 y154.length co108 : Value).ownBlock ∧ some k_ ≠ (v158 : Value).ownBlock ∧ some k_ ≠ (.slice Ao6 y102.length co6 : Value).ownBlock ∧ k_ ≠ gb105 ∧ k_ ≠ gb106 ∧ k_ ≠ gb107 ∧ k_ ≠ gb108)) (Kd.R_types (Kd.R_types (Kd.R_types (Kd.R_types (Kd.R_apart' (Kd.R_apart' (Kd.R_apart' (Kd.R_apart' (HO176.out) (Kd.R_typed HO_5.out) (by decide)) (Kd.N_typed HO_6.out) (by decide)) (Kd.R_typed HO_7.out) (by decide)) (Kd.R_typed HO_106000.out) (by decide)) BK105.out (by decide)) BK106.out (by decide)) BK107.out (by decide)) BK108.out (by decide)) (fun k_ hk => ⟨hk.1.1.1.1.1.1.1.2, ⟨hk.1.1.1.1.1.1.2, ⟨hk.1.1.1.1.1.2, ⟨hk.1.1.1.1.2, ⟨hk.1.1.1.2, ⟨hk.1.1.2, ⟨hk.1.2, hk.2⟩⟩⟩⟩⟩⟩⟩))).2.1 (Kd.R_F (Kd.R_mono (ok' := (fun k_ => some k_ ≠ (v110 : Value).ownBlock ∧ some k_ ≠ (.slice Ao108 y154.length co108 : Value).ownBlock ∧ some k_ ≠ (v158 : Value).ownBlock ∧ some k_ ≠ (.slice Ao6 y102.length co6 : Value).ownBlock ∧ k_ ≠ gb105 ∧ k_ ≠ gb106 ∧ k_ ≠ gb107 ∧ k_ ≠ gb108)) (Kd.R_types (Kd.R_types (Kd.R_types (Kd.R_types (Kd.R_apart' (Kd.R_apart' (Kd.R_apart' (Kd.R_apart' (HO176.out) (Kd.R_typed HO_5.out) (by decide)) (Kd.N_typed HO_6.out) (by decide)) (Kd.R_typed HO_7.out) (by decide)) (Kd.R_typed HO_106000.out) (by decide)) BK105.out (by decide)) BK106.out (by decide)) BK107.out (by decide)) BK108.out (by decide)) (fun k_ hk => ⟨hk.1.1.1.1.1.1.1.2, ⟨hk.1.1.1.1.1.1.2, ⟨hk.1.1.1.1.1.2, ⟨hk.1.1.1.1.2, ⟨hk.1.1.1.2, ⟨hk.1.1.2, ⟨hk.1.2, hk.2⟩⟩⟩⟩⟩⟩⟩))))) (Reps.one (show Kd.FK (Kd.slice 28 k28) _ _ y177 [.slice Ao131 y177.length co131] from (Kd.FK_slice_mk (Kd.R_reads' (Kd.R_mono (ok' := (fun k_ => some k_ ≠ (v110 : Value).ownBlock ∧ some k_ ≠ (.slice Ao108 y154.length co108 : Value).ownBlock ∧ some k_ ≠ (v158 : Value).ownBlock ∧ some k_ ≠ (.slice Ao6 y102.length co6 : Value).ownBlock ∧ k_ ≠ gb105 ∧ k_ ≠ gb106 ∧ k_ ≠ gb107 ∧ k_ ≠ gb108)) (Kd.R_types (Kd.R_types (Kd.R_types (Kd.R_types (Kd.R_apart' (Kd.R_apart' (Kd.R_apart' (Kd.R_apart' (HO179.out) (Kd.R_typed HO_5.out) (by decide)) (Kd.N_typed HO_6.out) (by decide)) (Kd.R_typed HO_7.out) (by decide)) (Kd.R_typed HO_106000.out) (by decide)) BK105.out (by decide)) BK106.out (by decide)) BK107.out (by decide)) BK108.out (by decide)) (fun k_ hk => ⟨hk.1.1.1.1.1.1.1.2, ⟨hk.1.1.1.1.1.1.2, ⟨hk.1.1.1.1.1.2, ⟨hk.1.1.1.1.2, ⟨hk.1.1.1.2, ⟨hk.1.1.2, ⟨hk.1.2, hk.2⟩⟩⟩⟩⟩⟩⟩))).2.1 (Kd.R_F (Kd.R_mono (ok' := (fun k_ => some k_ ≠ (v110 : Value).ownBlock ∧ some k_ ≠ (.slice Ao108 y154.length co108 : Value).ownBlock ∧ some k_ ≠ (v158 : Value).ownBlock ∧ some k_ ≠ (.slice Ao6 y102.length co6 : Value).ownBlock ∧ k_ ≠ gb105 ∧ k_ ≠ gb106 ∧ k_ ≠ gb107 ∧ k_ ≠ gb108)) (Kd.R_types (Kd.R_types (Kd.R_types (Kd.R_types (Kd.R_apart' (Kd.R_apart' (Kd.R_apart' (Kd.R_apart' (HO179.out) (Kd.R_typed HO_5.out) (by decide)) (Kd.N_typed HO_6.out) (by decide)) (Kd.R_typed HO_7.out) (by decide)) (Kd.R_typed HO_106000.out) (by decide)) BK105.out (by decide)) BK106.out (by decide)) BK107.out (by decide)) BK108.out (by decide)) (fun k_ hk => ⟨hk.1.1.1.1.1.1.1.2, ⟨hk.1.1.1.1.1.1.2, ⟨hk.1.1.1.1.1.2, ⟨hk.1.1.1.1.2, ⟨hk.1.1.1.2, ⟨hk.1.1.2, ⟨hk.1.2, hk.2⟩⟩⟩⟩⟩⟩⟩))))) (Reps.one (show Kd.FK (Kd.slice 28 k28) _ _ y180 [.slice Ao132 y180.length co132] from (Kd.FK_slice_mk (Kd.R_reads' (Kd.R_mono (ok' := (fun k_ => some k_ ≠ (v110 : Value).ownBlock ∧ some k_ ≠ (.slice Ao108 y154.length co108 : Value).ownBlock ∧ some k_ ≠ (v158 : Value).ownBlock ∧ some k_ ≠ (.slice Ao6 y102.length co6 : Value).ownBlock ∧ k_ ≠ gb105 ∧ k_ ≠ gb106 ∧ k_ ≠ gb107 ∧ k_ ≠ gb108)) (Kd.R_types (Kd.R_types (Kd.R_types (Kd.R_types (Kd.R_apart' (Kd.R_apart' (Kd.R_apart' (Kd.R_apart' (HO182.out) (Kd.R_typed HO_5.out) (by decide)) (Kd.N_typed HO_6.out) (by decide)) (Kd.R_typed HO_7.out) (by decide)) (Kd.R_typed HO_106000.out) (by decide)) BK105.out (by decide)) BK106.out (by decide)) BK107.out (by decide)) BK108.out (by decide)) (fun k_ hk => ⟨hk.1.1.1.1.1.1.1.2, ⟨hk.1.1.1.1.1.1.2, ⟨hk.1.1.1.1.1.2, ⟨hk.1.1.1.1.2, ⟨hk.1.1.1.2, ⟨hk.1.1.2, ⟨hk.1.2, hk.2⟩⟩⟩⟩⟩⟩⟩))).2.1 (Kd.R_F (Kd.R_mono (ok' := (fun k_ => some k_ ≠ (v110 : Value).ownBlock ∧ some k_ ≠ (.slice Ao108 y154.length co108 : Value).ownBlock ∧ some k_ ≠ (v158 : Value).ownBlock ∧ some k_ ≠ (.slice Ao6 y102.length co6 : Value).ownBlock ∧ k_ ≠ gb105 ∧ k_ ≠ gb106 ∧ k_ ≠ gb107 ∧ k_ ≠ gb108)) (Kd.R_types (Kd.R_types (Kd.R_types (Kd.R_types (Kd.R_apart' (Kd.R_apart' (Kd.R_apart' (Kd.R_apart' (HO182.out) (Kd.R_typed HO_5.out) (by decide)) (Kd.N_typed HO_6.out) (by decide)) (Kd.R_typed HO_7.out) (by decide)) (Kd.R_typed HO_106000.out) (by decide)) BK105.out (by decide)) BK106.out (by decide)) BK107.out (by decide)) BK108.out (by decide)) (fun k_ hk => ⟨hk.1.1.1.1.1.1.1.2, ⟨hk.1.1.1.1.1.1.2, ⟨hk.1.1.1.1.1.2, ⟨hk.1.1.1.1.2, ⟨hk.1.1.1.2, ⟨hk.1.1.2, ⟨hk.1.2, hk.2⟩⟩⟩⟩⟩⟩⟩))))) (Reps.one (show Kd.FK (Kd.slice 28 k28) _ _ y183 [.slice Ao133 y183.length co133] from (Kd.FK_slice_mk (Kd.R_reads' (Kd.R_mono (ok' := (fun k_ => some k_ ≠ (v110 : Value).ownBlock ∧ some k_ ≠ (.slice Ao108 y154.length co108 : Value).ownBlock ∧ some k_ ≠ (v158 : Value).ownBlock ∧ some k_ ≠ (.slice Ao6 y102.length co6 : Value).ownBlock ∧ k_ ≠ gb105 ∧ k_ ≠ gb106 ∧ k_ ≠ gb107 ∧ k_ ≠ gb108)) (Kd.R_types (Kd.R_types (Kd.R_types (Kd.R_types (Kd.R_apart' (Kd.R_apart' (Kd.R_apart' (Kd.R_apart' (HO185.out) (Kd.R_typed HO_5.out) (by decide)) (Kd.N_typed HO_6.out) (by decide)) (Kd.R_typed HO_7.out) (by decide)) (Kd.R_typed HO_106000.out) (by decide)) BK105.out (by decide)) BK106.out (by decide)) BK107.out (by decide)) BK108.out (by decide)) (fun k_ hk => ⟨hk.1.1.1.1.1.1.1.2, ⟨hk.1.1.1.1.1.1.2, ⟨hk.1.1.1.1.1.2, ⟨hk.1.1.1.1.2, ⟨hk.1.1.1.2, ⟨hk.1.1.2, ⟨hk.1.2, hk.2⟩⟩⟩⟩⟩⟩⟩))).2.1 (Kd.R_F (Kd.R_mono (ok' := (fun k_ => some k_ ≠ (v110 : Value).ownBlock ∧ some k_ ≠ (.slice Ao108 y154.length co108 : Value).ownBlock ∧ some k_ ≠ (v158 : Value).ownBlock ∧ some k_ ≠ (.slice Ao6 y102.length co6 : Value).ownBlock ∧ k_ ≠ gb105 ∧ k_ ≠ gb106 ∧ k_ ≠ gb107 ∧ k_ ≠ gb108)) (Kd.R_types (Kd.R_types (Kd.R_types (Kd.R_types (Kd.R_apart' (Kd.R_apart' (Kd.R_apart' (Kd.R_apart' (HO185.out) (Kd.R_typed HO_5.out) (by decide)) (Kd.N_typed HO_6.out) (by decide)) (Kd.R_typed HO_7.out) (by decide)) (Kd.R_typed HO_106000.out) (by decide)) BK105.out (by decide)) BK106.out (by decide)) BK107.out (by decide)) BK108.out (by decide)) (fun k_ hk => ⟨hk.1.1.1.1.1.1.1.2, ⟨hk.1.1.1.1.1.1.2, ⟨hk.1.1.1.1.1.2, ⟨hk.1.1.1.1.2, ⟨hk.1.1.1.2, ⟨hk.1.1.2, ⟨hk.1.2, hk.2⟩⟩⟩⟩⟩⟩⟩))))) (Reps.one (show Kd.FK (Kd.slice 28 k28) _ _ y186 [.slice Ao134 y186.length co134] from (Kd.FK_slice_mk (Kd.R_reads' (Kd.R_mono (ok' := (fun k_ => some k_ ≠ (v110 : Value).ownBlock ∧ some k_ ≠ (.slice Ao108 y154.length co108 : Value).ownBlock ∧ some k_ ≠ (v158 : Value).ownBlock ∧ some k_ ≠ (.slice Ao6 y102.length co6 : Value).ownBlock ∧ k_ ≠ gb105 ∧ k_ ≠ gb106 ∧ k_ ≠ gb107 ∧ k_ ≠ gb108)) (Kd.R_types (Kd.R_types (Kd.R_types (Kd.R_types (Kd.R_apart' (Kd.R_apart' (Kd.R_apart' (Kd.R_apart' (HO188.out) (Kd.R_typed HO_5.out) (by decide)) (Kd.N_typed HO_6.out) (by decide)) (Kd.R_typed HO_7.out) (by decide)) (Kd.R_typed HO_106000.out) (by decide)) BK105.out (by decide)) BK106.out (by decide)) BK107.out (by decide)) BK108.out (by decide)) (fun k_ hk => ⟨hk.1.1.1.1.1.1.1.2, ⟨hk.1.1.1.1.1.1.2, ⟨hk.1.1.1.1.1.2, ⟨hk.1.1.1.1.2, ⟨hk.1.1.1.2, ⟨hk.1.1.2, ⟨hk.1.2, hk.2⟩⟩⟩⟩⟩⟩⟩))).2.1 (Kd.R_F (Kd.R_mono (ok' := (fun k_ => some k_ ≠ (v110 : Value).ownBlock ∧ some k_ ≠ (.slice Ao108 y154.length co108 : Value).ownBlock ∧ some k_ ≠ (v158 : Value).ownBlock ∧ some k_ ≠ (.slice Ao6 y102.length co6 : Value).ownBlock ∧ k_ ≠ gb105 ∧ k_ ≠ gb106 ∧ k_ ≠ gb107 ∧ k_ ≠ gb108)) (Kd.R_types (Kd.R_types (Kd.R_types (Kd.R_types (Kd.R_apart' (Kd.R_apart' (Kd.R_apart' (Kd.R_apart' (HO188.out) (Kd.R_typed HO_5.out) (by decide)) (Kd.N_typed HO_6.out) (by decide)) (Kd.R_typed HO_7.out) (by decide)) (Kd.R_typed HO_106000.out) (by decide)) BK105.out (by decide)) BK106.out (by decide)) BK107.out (by decide)) BK108.out (by decide)) (fun k_ hk => ⟨hk.1.1.1.1.1.1.1.2, ⟨hk.1.1.1.1.1.1.2, ⟨hk.1.1.1.1.1.2, ⟨hk.1.1.1.1.2, ⟨hk.1.1.1.2, ⟨hk.1.1.2, ⟨hk.1.2, hk.2⟩⟩⟩⟩⟩⟩⟩))))) (Reps.none _ _))))))))))
 intro v190 w135 ho136 hb hg_ hnew_
 clear hg_ hnew_
 (first | rw [← Ny189.out] at ho136 | (simp only [Int.reduceToNat] at ho136; rw [← Ny189.out] at ho136))
 have n0_ := qR HO_5 hb
 have n1_ := Aside0.mk (Kd.N_elder' (by (with_reducible repeat (first | apply Kd.N_alloc | apply Kd.N_drewN | apply Kd.N_drew)); exact HO_6.out) (Kd.N_base ho136) hb)
 have n2_ := qR HO_7 hb
 have n3_ := qR HO_106000 hb
 have n4_ := Aside0.mk (Kd.N_lower ho136 (qZ HB))
 have n5_ := qB BK105 hb
 have n6_ := qB BK106 hb
 have n7_ := qB BK107 hb
 have n8_ := qB BK108 hb
 have n9_ := qS HB hb
 clear HO_5
 clear HO_6
 clear HO_7
 clear HO_106000
 clear BK105
 clear BK106
 clear BK107
 clear BK108
 clear HB
 clear HO167
 clear HO170
 clear HO173
 clear HO176
 clear HO179
 clear HO182
 clear HO185
 clear HO188
 have HO_5 := n0_
 have HO_6 := n1_
 have HO_7 := n2_
 have HO_106000 := n3_
 have HO191 := n4_
 have BK105 := n5_
 have BK106 := n6_
 have BK107 := n7_
 have BK108 := n8_
 have HB := n9_
 clear n0_ n1_ n2_ n3_ n4_ n5_ n6_ n7_ n8_ n9_
 clear hb ho136
 refine hK.out _ _ ⟨.slice Ao127 y165.length co127, .slice Ao128 y168.length co128, .slice Ao129 y171.length co129, .slice Ao130 y174.length co130, .slice Ao131 y177.length co131, .slice Ao132 y180.length co132, .slice Ao133 y183.length co133, .slice Ao134 y186.length co134, v190, m20_, (by rw [ha.out]; exact putSel_upk 19 hb_ rfl rfl rfl), (by (with_reducible repeat (first | apply Kd.R_alloc | apply Kd.R_drewN | apply Kd.R_drew)); exact HO_106000.out), (by (with_reducible repeat (first | apply Kd.R_alloc | apply Kd.R_drewN | apply Kd.R_drew)); exact HO_5.out), (by (with_reducible repeat (first | apply Kd.N_alloc | apply Kd.N_drewN | apply Kd.N_drew)); exact Kd.N_mono HO_6.out (fun _ hk => hk.1)), (by (with_reducible repeat (first | apply Kd.R_alloc | apply Kd.R_drewN | apply Kd.R_drew)); exact HO_7.out), (by (with_reducible repeat (first | refine blk_drewN ?_ _ | refine blk_drew ?_ | refine blk_alloc ?_ _)); exact BK105.out), (by (with_reducible repeat (first | refine blk_drewN ?_ _ | refine blk_drew ?_ | refine blk_alloc ?_ _)); exact BK106.out), (by (with_reducible repeat (first | refine blk_drewN ?_ _ | refine blk_drew ?_ | refine blk_alloc ?_ _)); exact BK107.out), (by (with_reducible repeat (first | refine blk_drewN ?_ _ | refine blk_drew ?_ | refine blk_alloc ?_ _)); exact BK108.out), (by repeat (first | (with_reducible first | exact HB.out | apply below_alloc | apply pw_below_drewN | apply below_drew1 | refine below_set ?_ GE105.out | refine below_set ?_ GE106.out | refine below_set ?_ GE107.out | refine below_set ?_ GE108.out) | exact HB.out)), fun _ h1_ => absurd ((up_self b 19).symm.trans h1_) (by decide), fun _ h1_ => absurd ((up_self b 19).symm.trans h1_) (by decide), fun _ h1_ => absurd ((up_self b 19).symm.trans h1_) (by decide), fun _ h1_ => absurd ((up_self b 19).symm.trans h1_) (by decide), fun _ h1_ => absurd ((up_self b 19).symm.trans h1_) (by decide), fun _ h1_ => absurd ((up_self b 19).symm.trans h1_) (by decide), fun _ h1_ => absurd ((up_self b 19).symm.trans h1_) (by decide), fun _ h1_ => absurd ((up_self b 19).symm.trans h1_) (by decide), fun _ => (by (with_reducible repeat (first | apply Kd.N_alloc | apply Kd.N_drewN | apply Kd.N_drew)); exact Kd.N_mono HO191.out (fun _ hk => ⟨hk.2.2.2.1, ⟨hk.1, ⟨hk.2.1, ⟨hk.2.2.1, ⟨hk.2.2.2.2.1, ⟨hk.2.2.2.2.2.1, ⟨hk.2.2.2.2.2.2.1, hk.2.2.2.2.2.2.2⟩⟩⟩⟩⟩⟩⟩)), fun h0_ => absurd ((hoff 20 (by kernel_rfl)).symm.trans h0_) (by decide)⟩
end Go.Proofs.Ytiicfblccklfhaa.PPG2
end
section
namespace Go.Proofs.Ytiicfblccklfhaa.PPG2
open Go.RowKit Go.Proofs.YtiicfblccklfhaaW.PrintWords Go.Proofs.YtiicfblccklfhaaW.PrintLast Go.Proofs.YtiicfblccklfhaaW.PrintMore
attribute [local go_sem] max2_int min2_int max_two min_two max_three min_three max_four min_four
open Go.Proofs.Ytiicfblccklfhaa.Ext Go.Proofs.Ytiicfblccklfhaa.PK Go.Proofs.Ytiicfblccklfhaa.PPF
set_option linter.unusedVariables false
set_option linter.unusedSimpArgs false
set_option maxHeartbeats 80000000 in
set_option maxRecDepth 100000 in
theorem rabbetlaw23_PredForms.calls_r3_r9 : rabbetlaw23_PredForms.calls_r3_c.2.2.2.2.2.2.2.2.2.1 := by
  intro k r w hu64 hu33 hu26 hu28 A1 y102 Ny102 y109 Ny109 y112 Ny112 y115 Ny115 y118 Ny118 y121 Ny121 y124 Ny124 y127 Ny127 y130 Ny130 y133 Ny133 y136 Ny136 y139 Ny139 y142 Ny142 y145 Ny145 y148 Ny148 y151 Ny151 y154 Ny154 y157 Ny157 xi0_ w3 w4 Ao6 co6 gb105 w7 GW105 GE105 gb106 w9 GW106 GE106 NB105_106 NB106_105 gb107 w10 GW107 GE107 NB105_107 NB107_105 NB106_107 NB107_106 hnb11 hnc11 hnb12 hnc12 hnb14 hnc14 gb108 w16 GW108 GE108 NB105_108 NB108_105 NB106_108 NB108_106 NB107_108 NB108_107 hnb17 hnc17 hnb18 hnc18 hnb19 hnc19 v110 w22 w25 w28 w31 w34 w36 w38 w40 w43 w45 w49 w53 w57 w62 w65 Ao67 co67 Ao68 co68 Ao69 co69 Ao70 co70 Ao71 co71 Ao72 co72 Ao73 co73 Ao74 co74 Ao75 co75 Ao76 co76 Ao77 co77 Ao78 co78 Ao79 co79 Ao80 co80 w81 v158 w83 HO104 HO111 HO159 xi1_ xi2_ xi3_ xi4_ xi5_ xi6_ xie0_ xie1_ u74 u75 u76 u77 u78 u79 u80 u81 u82 u83 u84 u85 u86 u87 u88 u89 u90 u91 u92 u93 u94 u95 u96 u97 u98 u99 u100 xi8_ xi9_ x8_1 k1 xi11_ HK1 c85b0 c107b0 c107b1 y165 Ny165 y168 Ny168 y171 Ny171 y174 Ny174 y177 Ny177 y180 Ny180 y183 Ny183 y186 Ny186 y189 Ny189 y192 Ny192 Ao108 co108 HO156 xi10_ xie2_ xie3_ hHeld HT_ HW_ w109 b w136 v166 v169 v172 v175 v178 v181 v184 v187 v190 v193 w137 HO_5 HO_6 HO_7 xie4_ HO191 HO194 xie5_ xie6_ xie7_ xie8_ xie9_ xie10_ xie11_ Q_X20_ wr u0 u122 u123 u124 u125 u126 u127 u128 u129 u130 u131 u132 u133 u134 u135 u136 u137 u138 xie12_ xie13_ xie14_ x11_2 HO_9 HO_10 HO_106000 BK105 BK106 BK107 BK108 HB k2 xie15_ HK2 c139b0 c140b0 t196 H A141 c142b0 c143
  have c143b0 : (t196 == (rd y192 x11_2)) = true := beq_iff_eq.mpr c143
  have c143b1 : (t196 != (rd y192 x11_2)) = false := bne_eq_false_iff_eq.mpr c143
  clear c143
  have H' := Aside0.mk H
  clear H
  obtain ⟨Ao144, co144, eo144⟩ := Kd.N_slice HO_9.out
  subst eo144
  try go_wp2
  have n0_ := Aside0.mk (Kd.N_drew HO_9.out)
  have n1_ := Aside0.mk (Kd.R_drew HO_10.out)
  have n2_ := Aside0.mk (Kd.R_drew HO_106000.out)
  have n3_ := Aside0.mk (blk_drew BK105.out)
  have n4_ := Aside0.mk (blk_drew BK106.out)
  have n5_ := Aside0.mk (blk_drew BK107.out)
  have n6_ := Aside0.mk (blk_drew BK108.out)
  have n7_ := Aside0.mk (below_drew1 HB.out)
  clear HO_9
  clear HO_10
  clear HO_106000
  clear BK105
  clear BK106
  clear BK107
  clear BK108
  clear HB
  have HO_9 := n0_
  have HO_10 := n1_
  have HO_106000 := n2_
  have BK105 := n3_
  have BK106 := n4_
  have BK107 := n5_
  have BK108 := n6_
  have HB := n7_
  clear n0_ n1_ n2_ n3_ n4_ n5_ n6_ n7_
  have p195 : 0 ≤ (x11_2 : Int) := of_decide_eq_true (by first | (with_reducible assumption) | assumption)
  have q195 : x11_2 < (y189.length : Int) := of_decide_eq_true (by first | (with_reducible assumption) | assumption)
  obtain ⟨ad195, A195_0, c195_0, e195, hx195_0, hl195_0, hi195_0⟩ := at_L13 (Kd.N_reads' HO_9.out).2.2 x11_2 p195 q195
  cases e195
  obtain ⟨ce195, hce195, hMe195, hcc195⟩ := Kd.N_get HO_9.out [] x11_2 p195 (by first | exact q195 | exact of_decide_eq_true (by first | (with_reducible assumption) | assumption) | (have e_ := (Kd.N_reads' HO_9.out).1; omega))
  obtain ⟨ua195_0, uc195_0, rfl, ul195_0, ge195_0⟩ := Kd.FK_slice_open hMe195
  have hv195_0 := hcc195 0 _ rfl
  rw [Nat.add_zero, show ((Kd.slice 28 k28)).sz = 1 from rfl, Nat.mul_one] at hv195_0
  replace hv195_0 := Option.some.inj (hv195_0.symm.trans hx195_0)
  injection hv195_0 with hva_ hvn_ hvc_
  rw [hva_] at ge195_0
  rw [hvc_] at ul195_0
  have HL195_0 := Aside0.mk (show Kd.V k28 28 _ w.heap.size _ _ (rd_L13 y189 x11_2) from Kd.V_mk ul195_0 ge195_0)
  clear hva_ hvn_ hvc_ ge195_0 ul195_0
  clear hcc195 hce195
  have HR195_0 := Aside0.mk hi195_0
  have HC195_0 := Aside0.mk hl195_0
  clear hi195_0 hl195_0
  replace p195 := eq_true p195
  replace q195 := eq_true q195
  obtain ⟨Ao146, co146, eo146⟩ := Kd.R_slice HO_10.out
  (first | subst eo146 | (injection eo146 with f1_ f2_ f3_; have f4_ := f1_.symm; have f5_ := f3_.symm; clear f1_ f2_ f3_; subst f4_; subst f5_))
  have p197 : 0 ≤ (x11_2 : Int) := of_decide_eq_true (by first | (with_reducible assumption) | assumption)
  have q197 : x11_2 < (y192.length : Int) := of_decide_eq_true (by first | (with_reducible assumption) | assumption)
  obtain ⟨ad197, e197, hx197_0⟩ := Kd.at_int (Kd.R_reads' HO_10.out).2.2 x11_2 p197 q197
  cases e197
  replace p197 := eq_true p197
  replace q197 := eq_true q197
  refine start_ (n := 11) (S := fun w' => w'.cell? ⟨gb105, 0, none⟩ = some (.slice Ao6 y102.length co6) ∧ w'.cell? ⟨gb105, 1, none⟩ = some (.int .i64 2) ∧ w'.cell? (ad195.add (x11_2).toNat) = some (.slice A195_0 (rd_L13 y189 x11_2).length c195_0) ∧ w'.cell? (ad197.add (x11_2).toNat) = some (.int .i64 (rd y192 x11_2))) (ds := []) #[false, false, false, false, false, false, false, false, false, false, false] (by kernel_rfl) rfl rfl ⟨(blk_cell BK105.out 0).trans rfl, (blk_cell BK105.out 1).trans rfl, hx195_0, hx197_0⟩ (fun hHeld => ?_); refine with_tabW rabbetlaw23_PredForms.tab19 rabbetlaw23_PredForms.bits19 (fun HT_ HW_ => ?_)
  generalize wr.drew = w145 at HO_9 HO_10 HO_106000 BK105 BK106 BK107 BK108 HB HL195_0 HR195_0 hx195_0 hx197_0 hHeld ⊢
  refine pure_ (i := 1) (N := some 129) (v := ?_) (a' := ?_) #[false, true, false, false, false, false, false, false, false, false, false] rfl rfl (any_of HT_.out (by kernel_rfl)) (fun _ _ _ h => h) (Or.inl ⟨by rfl, ?_⟩) ?_ ?_
  rotate_left
  ·intro w'
   go_simp
   with_reducible rfl
  rotate_left
  ·simp only [Act.put, List.setIfInBounds_toArray, List.set_cons_zero, List.set_cons_succ, i64_w, i32_w]
   rfl
  refine pure_ (i := 2) (N := some 130) (v := ?_) (a' := ?_) #[false, true, true, false, false, false, false, false, false, false, false] rfl rfl (any_of HT_.out (by kernel_rfl)) (fun _ _ _ h => h) (Or.inl ⟨by rfl, ?_⟩) ?_ ?_
  rotate_left
  ·intro w'
   go_simp
   with_reducible rfl
  rotate_left
  ·simp only [Act.put, List.setIfInBounds_toArray, List.set_cons_zero, List.set_cons_succ, i64_w, i32_w]
   rfl
  refine pure_ (i := 3) (N := some 131) (v := ?_) (a' := ?_) #[false, true, true, true, false, false, false, false, false, false, false] rfl rfl (any_of HT_.out (by kernel_rfl)) (fun _ _ _ h => h) (Or.inl ⟨by rfl, ?_⟩) ?_ ?_
  rotate_left
  ·intro w'
   go_simp
   with_reducible rfl
  rotate_left
  ·simp only [Act.put, List.setIfInBounds_toArray, List.set_cons_zero, List.set_cons_succ, i64_w, i32_w]
   rfl
  refine pure_ (i := 6) (N := some 134) (v := ?_) (a' := ?_) #[false, true, true, true, false, false, true, false, false, false, false] rfl rfl (any_of HT_.out (by kernel_rfl)) (fun _ _ _ h => h) (Or.inl ⟨by rfl, ?_⟩) ?_ ?_
  rotate_left
  ·intro w'
   go_simp
   with_reducible rfl
  rotate_left
  ·simp only [Act.put, List.setIfInBounds_toArray, List.set_cons_zero, List.set_cons_succ, i64_w, i32_w]
   rfl
  refine pure_ (i := 7) (N := some 135) (v := ?_) (a' := ?_) #[false, true, true, true, false, false, true, true, false, false, false] rfl rfl (any_of HT_.out (by kernel_rfl)) (fun _ _ _ h => h) (Or.inl ⟨by rfl, ?_⟩) ?_ ?_
  rotate_left
  ·intro w'
   go_simp
   with_reducible rfl
  rotate_left
  ·simp only [Act.put, List.setIfInBounds_toArray, List.set_cons_zero, List.set_cons_succ, i64_w, i32_w]
   rfl
  refine pure_ (i := 8) (N := some 136) (v := ?_) (a' := ?_) #[false, true, true, true, false, false, true, true, true, false, false] rfl rfl (any_of HT_.out (by kernel_rfl)) (fun _ _ _ h => h) (Or.inl ⟨by rfl, ?_⟩) ?_ ?_
  rotate_left
  ·intro w'
   go_simp
   with_reducible rfl
  rotate_left
  ·simp only [Act.put, List.setIfInBounds_toArray, List.set_cons_zero, List.set_cons_succ, i64_w, i32_w]
   rfl
  refine take_ (i := 0) (N := some 128) (v := ?_) (a' := ?_) #[true, true, true, true, false, false, true, true, true, false, false] rfl rfl (take_ofW HT_.out HW_.out (by kernel_rfl)) (fun _ _ _ h => h) (Or.inl ⟨by rfl, ?_⟩) hHeld ?_ ?_
  rotate_left
  ·rintro w' ⟨s0, s1, s2, s3⟩
   go_simp
   with_reducible rfl
  rotate_left
  ·simp only [Act.put, List.setIfInBounds_toArray, List.set_cons_zero, List.set_cons_succ, i64_w, i32_w]
   rfl
  refine take_ (i := 4) (N := some 132) (v := ?_) (a' := ?_) #[true, true, true, true, true, false, true, true, true, false, false] rfl rfl (take_ofW HT_.out HW_.out (by kernel_rfl)) (fun _ _ _ h => h) (Or.inl ⟨by rfl, ?_⟩) hHeld ?_ ?_
  rotate_left
  ·rintro w' ⟨s0, s1, s2, s3⟩
   go_simp
   with_reducible rfl
  rotate_left
  ·simp only [Act.put, List.setIfInBounds_toArray, List.set_cons_zero, List.set_cons_succ, i64_w, i32_w]
   rfl
  refine take_ (i := 9) (N := some 137) (v := ?_) (a' := ?_) #[true, true, true, true, true, false, true, true, true, true, false] rfl rfl (take_ofW HT_.out HW_.out (by kernel_rfl)) (fun _ _ _ h => h) (Or.inl ⟨by rfl, ?_⟩) hHeld ?_ ?_
  rotate_left
  ·rintro w' ⟨s0, s1, s2, s3⟩
   go_simp
   with_reducible rfl
  rotate_left
  ·simp only [Act.put, List.setIfInBounds_toArray, List.set_cons_zero, List.set_cons_succ, i64_w, i32_w]
   rfl
  refine one_ (i := 5) (N := some 133) #[true, true, true, true, true, true, true, true, true, true, false] rfl rfl (one_of HT_.out (by kernel_rfl)) (by decide) (fun K hK => ?_)
  refine goes_ Try.func13 (by kernel_rfl) rfl #[.agg #[.slice Ao6 y102.length co6, .int .i64 2], .slice A195_0 (rd_L13 y189 x11_2).length c195_0] (by rfl) rfl rfl (by (try simp only [List.map_toArray, List.map_cons, List.map_nil]); first | done | rfl | (simp only [List.length_drop, List.length_take]; rfl)) ?_
  with_reducible refine (pred_Check.calls _ _ y102 2 _ _ (rd_L13 y189 x11_2) t196 _ ?side1 ?side2 ?side3 ?side4 A141.out).mono ?_
  (case side1 => repeat (first | exact (Kd.R_reads' HO_106000.out).2.2 | (with_reducible refine Kd.C_alloc ?_ _) | (with_reducible refine Kd.C_drewN ?_ _) | (with_reducible refine Kd.C_drew ?_)))
  (case side2 => exact (Kd.R_reads' HO_106000.out).2.1)
  (case side3 => repeat (first | exact (by repeat (first | (with_reducible exact HR195_0.out) | (with_reducible refine Kd.C_alloc ?_ _) | (with_reducible refine Kd.C_drewN ?_ _) | (with_reducible refine Kd.C_drew ?_) | exact HR195_0.out)) | (with_reducible refine Kd.C_alloc ?_ _) | (with_reducible refine Kd.C_drewN ?_ _) | (with_reducible refine Kd.C_drew ?_)))
  (case side4 => exact HC195_0.out)
  rintro e w147 ⟨rfl, hb⟩
  have HS2_ := (hb.cell (World.block_lt_of_cell? _ _ (hHeld.2.2.1))).trans (hHeld.2.2.1)
  have HS3_ := (hb.cell (World.block_lt_of_cell? _ _ (hHeld.2.2.2))).trans (hHeld.2.2.2)
  refine ⟨_, rfl, ?_⟩
  have n0_ := Aside0.mk (Kd.N_below (by (with_reducible repeat (first | apply Kd.N_alloc | apply Kd.N_drewN | apply Kd.N_drew)); exact HO_9.out) hb)
  have n1_ := qR HO_10 hb
  have n2_ := qR HO_106000 hb
  have n3_ := Aside0.mk (Kd.V_below (by (with_reducible repeat (first | apply Kd.V_alloc | apply Kd.V_drewN | apply Kd.V_drew)); exact HL195_0.out) hb)
  have n4_ := qB BK105 hb
  have n5_ := qB BK106 hb
  have n6_ := qB BK107 hb
  have n7_ := qB BK108 hb
  have n8_ := Aside0.mk (Kd.C_below (by repeat (first | (with_reducible exact HR195_0.out) | (with_reducible refine Kd.C_alloc ?_ _) | (with_reducible refine Kd.C_drewN ?_ _) | (with_reducible refine Kd.C_drew ?_) | exact HR195_0.out)) hb)
  have n9_ := qS HB hb
  clear HO_9
  clear HO_10
  clear HO_106000
  clear HL195_0
  clear BK105
  clear BK106
  clear BK107
  clear BK108
  clear HR195_0
  clear HB
  have HO_9 := n0_
  have HO_10 := n1_
  have HO_106000 := n2_
  have HL195_0 := n3_
  have BK105 := n4_
  have BK106 := n5_
  have BK107 := n6_
  have BK108 := n7_
  have HR195_0 := n8_
  have HB := n9_
  clear n0_ n1_ n2_ n3_ n4_ n5_ n6_ n7_ n8_ n9_
  (try clear hb)
  (try clear hb2)
  (try clear hk)
  (try clear hi)
  refine hK.out _ _ ⟨(blk_cell BK105.out 0).trans rfl, (blk_cell BK105.out 1).trans rfl, HS2_, HS3_⟩ (fun hHeld => ?_)
  clear hK K
  refine norm_ (a' := ?_) ?_ ?_
  rotate_left
  ·show Act.put _ (some 133) _ = _
   simp only [Act.put, List.setIfInBounds_toArray, List.set_cons_zero, List.set_cons_succ, i64_w, i32_w]
   rfl
  refine pure_ (i := 10) (N := some 138) (v := ?_) (a' := ?_) #[true, true, true, true, true, true, true, true, true, true, true] rfl rfl (any_of HT_.out (by kernel_rfl)) (fun _ _ _ h => h) (Or.inl ⟨by rfl, ?_⟩) ?_ ?_
  rotate_left
  ·intro w'
   go_simp
   with_reducible rfl
  rotate_left
  ·simp only [Act.put, List.setIfInBounds_toArray, List.set_cons_zero, List.set_cons_succ, i64_w, i32_w]
   rfl
  refine done_ (done_of HT_.out (by kernel_rfl)) ?_
  try go_wp2
  go_roundg k2
  case measure => have := HK1.out; have := HK2.out; omega
  case rel => exact ⟨(wrap64 (x11_2 + 1)), (by first | rfl | (simp; done) | (simp [*]; done)), H', ⟨by have := HK1.out; have := HK2.out; omega⟩, ⟨by (with_reducible repeat (first | apply Kd.N_alloc | apply Kd.N_drewN | apply Kd.N_drew)); exact HO_9.out⟩, ⟨by (with_reducible repeat (first | apply Kd.R_alloc | apply Kd.R_drewN | apply Kd.R_drew)); exact HO_10.out⟩, ⟨by (with_reducible repeat (first | apply Kd.R_alloc | apply Kd.R_drewN | apply Kd.R_drew)); exact HO_106000.out⟩, ⟨by (with_reducible repeat (first | refine blk_drewN ?_ _ | refine blk_drew ?_ | refine blk_alloc ?_ _)); exact BK105.out⟩, ⟨by (with_reducible repeat (first | refine blk_drewN ?_ _ | refine blk_drew ?_ | refine blk_alloc ?_ _)); exact BK106.out⟩, ⟨by (with_reducible repeat (first | refine blk_drewN ?_ _ | refine blk_drew ?_ | refine blk_alloc ?_ _)); exact BK107.out⟩, ⟨by (with_reducible repeat (first | refine blk_drewN ?_ _ | refine blk_drew ?_ | refine blk_alloc ?_ _)); exact BK108.out⟩, ⟨by repeat (first | (with_reducible first | exact HB.out | apply below_alloc | apply pw_below_drewN | apply below_drew1 | refine below_set ?_ GE105.out | refine below_set ?_ GE106.out | refine below_set ?_ GE107.out | refine below_set ?_ GE108.out) | exact HB.out)⟩⟩
end Go.Proofs.Ytiicfblccklfhaa.PPG2
end
section
namespace Go.Proofs.Ytiicfblccklfhaa.PPG2
open Go.RowKit Go.Proofs.YtiicfblccklfhaaW.PrintWords Go.Proofs.YtiicfblccklfhaaW.PrintLast Go.Proofs.YtiicfblccklfhaaW.PrintMore
attribute [local go_sem] max2_int min2_int max_two min_two max_three min_three max_four min_four
open Go.Proofs.Ytiicfblccklfhaa.Ext Go.Proofs.Ytiicfblccklfhaa.PK Go.Proofs.Ytiicfblccklfhaa.PPF
set_option linter.unusedVariables false
set_option linter.unusedSimpArgs false
set_option maxHeartbeats 80000000 in
set_option maxRecDepth 100000 in
theorem rabbetlaw23_PredForms.calls_r3_r10 : rabbetlaw23_PredForms.calls_r3_c.2.2.2.2.2.2.2.2.2.2.1 := by
  intro k r w hu64 hu33 hu26 hu28 A1 y102 Ny102 y109 Ny109 y112 Ny112 y115 Ny115 y118 Ny118 y121 Ny121 y124 Ny124 y127 Ny127 y130 Ny130 y133 Ny133 y136 Ny136 y139 Ny139 y142 Ny142 y145 Ny145 y148 Ny148 y151 Ny151 y154 Ny154 y157 Ny157 xi0_ w3 w4 Ao6 co6 gb105 w7 GW105 GE105 gb106 w9 GW106 GE106 NB105_106 NB106_105 gb107 w10 GW107 GE107 NB105_107 NB107_105 NB106_107 NB107_106 hnb11 hnc11 hnb12 hnc12 hnb14 hnc14 gb108 w16 GW108 GE108 NB105_108 NB108_105 NB106_108 NB108_106 NB107_108 NB108_107 hnb17 hnc17 hnb18 hnc18 hnb19 hnc19 v110 w22 w25 w28 w31 w34 w36 w38 w40 w43 w45 w49 w53 w57 w62 w65 Ao67 co67 Ao68 co68 Ao69 co69 Ao70 co70 Ao71 co71 Ao72 co72 Ao73 co73 Ao74 co74 Ao75 co75 Ao76 co76 Ao77 co77 Ao78 co78 Ao79 co79 Ao80 co80 w81 v158 w83 HO104 HO111 HO159 xi1_ xi2_ xi3_ xi4_ xi5_ xi6_ xie0_ xie1_ u74 u75 u76 u77 u78 u79 u80 u81 u82 u83 u84 u85 u86 u87 u88 u89 u90 u91 u92 u93 u94 u95 u96 u97 u98 u99 u100 xi8_ xi9_ x8_1 k1 xi11_ HK1 c85b0 c107b0 c107b1 y165 Ny165 y168 Ny168 y171 Ny171 y174 Ny174 y177 Ny177 y180 Ny180 y183 Ny183 y186 Ny186 y189 Ny189 y192 Ny192 Ao108 co108 HO156 xi10_ xie2_ xie3_ hHeld HT_ HW_ w109 b w136 v166 v169 v172 v175 v178 v181 v184 v187 v190 v193 w137 HO_5 HO_6 HO_7 xie4_ HO191 HO194 xie5_ xie6_ xie7_ xie8_ xie9_ xie10_ xie11_ Q_X20_ wr u0 u122 u123 u124 u125 u126 u127 u128 u129 u130 u131 u132 u133 u134 u135 u136 u137 u138 xie12_ xie13_ xie14_ x11_2 HO_9 HO_10 HO_106000 BK105 BK106 BK107 BK108 HB k2 xie15_ HK2 c139b0 c140b0 t196 H A141 c142b0 c143
  have c143b0 : (t196 == (rd y192 x11_2)) = false := beq_eq_false_iff_ne.mpr c143
  have c143b1 : (t196 != (rd y192 x11_2)) = true := bne_iff_ne.mpr c143
  obtain rfl := Option.some.inj H
  obtain ⟨Ao148, co148, eo148⟩ := Kd.N_slice HO_9.out
  subst eo148
  try go_wp2
  have n0_ := Aside0.mk (Kd.N_drew HO_9.out)
  have n1_ := Aside0.mk (Kd.R_drew HO_10.out)
  have n2_ := Aside0.mk (Kd.R_drew HO_106000.out)
  have n3_ := Aside0.mk (blk_drew BK105.out)
  have n4_ := Aside0.mk (blk_drew BK106.out)
  have n5_ := Aside0.mk (blk_drew BK107.out)
  have n6_ := Aside0.mk (blk_drew BK108.out)
  have n7_ := Aside0.mk (below_drew1 HB.out)
  clear HO_9
  clear HO_10
  clear HO_106000
  clear BK105
  clear BK106
  clear BK107
  clear BK108
  clear HB
  have HO_9 := n0_
  have HO_10 := n1_
  have HO_106000 := n2_
  have BK105 := n3_
  have BK106 := n4_
  have BK107 := n5_
  have BK108 := n6_
  have HB := n7_
  clear n0_ n1_ n2_ n3_ n4_ n5_ n6_ n7_
  have p195 : 0 ≤ (x11_2 : Int) := of_decide_eq_true (by first | (with_reducible assumption) | assumption)
  have q195 : x11_2 < (y189.length : Int) := of_decide_eq_true (by first | (with_reducible assumption) | assumption)
  obtain ⟨ad195, A195_0, c195_0, e195, hx195_0, hl195_0, hi195_0⟩ := at_L13 (Kd.N_reads' HO_9.out).2.2 x11_2 p195 q195
  cases e195
  obtain ⟨ce195, hce195, hMe195, hcc195⟩ := Kd.N_get HO_9.out [] x11_2 p195 (by first | exact q195 | exact of_decide_eq_true (by first | (with_reducible assumption) | assumption) | (have e_ := (Kd.N_reads' HO_9.out).1; omega))
  obtain ⟨ua195_0, uc195_0, rfl, ul195_0, ge195_0⟩ := Kd.FK_slice_open hMe195
  have hv195_0 := hcc195 0 _ rfl
  rw [Nat.add_zero, show ((Kd.slice 28 k28)).sz = 1 from rfl, Nat.mul_one] at hv195_0
  replace hv195_0 := Option.some.inj (hv195_0.symm.trans hx195_0)
  injection hv195_0 with hva_ hvn_ hvc_
  rw [hva_] at ge195_0
  rw [hvc_] at ul195_0
  have HL195_0 := Aside0.mk (show Kd.V k28 28 _ w.heap.size _ _ (rd_L13 y189 x11_2) from Kd.V_mk ul195_0 ge195_0)
  clear hva_ hvn_ hvc_ ge195_0 ul195_0
  clear hcc195 hce195
  have HR195_0 := Aside0.mk hi195_0
  have HC195_0 := Aside0.mk hl195_0
  clear hi195_0 hl195_0
  replace p195 := eq_true p195
  replace q195 := eq_true q195
  obtain ⟨Ao150, co150, eo150⟩ := Kd.R_slice HO_10.out
  (first | subst eo150 | (injection eo150 with f1_ f2_ f3_; have f4_ := f1_.symm; have f5_ := f3_.symm; clear f1_ f2_ f3_; subst f4_; subst f5_))
  have p197 : 0 ≤ (x11_2 : Int) := of_decide_eq_true (by first | (with_reducible assumption) | assumption)
  have q197 : x11_2 < (y192.length : Int) := of_decide_eq_true (by first | (with_reducible assumption) | assumption)
  obtain ⟨ad197, e197, hx197_0⟩ := Kd.at_int (Kd.R_reads' HO_10.out).2.2 x11_2 p197 q197
  cases e197
  replace p197 := eq_true p197
  replace q197 := eq_true q197
  refine start_ (n := 11) (S := fun w' => w'.cell? ⟨gb105, 0, none⟩ = some (.slice Ao6 y102.length co6) ∧ w'.cell? ⟨gb105, 1, none⟩ = some (.int .i64 2) ∧ w'.cell? (ad195.add (x11_2).toNat) = some (.slice A195_0 (rd_L13 y189 x11_2).length c195_0) ∧ w'.cell? (ad197.add (x11_2).toNat) = some (.int .i64 (rd y192 x11_2))) (ds := []) #[false, false, false, false, false, false, false, false, false, false, false] (by kernel_rfl) rfl rfl ⟨(blk_cell BK105.out 0).trans rfl, (blk_cell BK105.out 1).trans rfl, hx195_0, hx197_0⟩ (fun hHeld => ?_); refine with_tabW rabbetlaw23_PredForms.tab19 rabbetlaw23_PredForms.bits19 (fun HT_ HW_ => ?_)
  generalize wr.drew = w149 at HO_9 HO_10 HO_106000 BK105 BK106 BK107 BK108 HB HL195_0 HR195_0 hx195_0 hx197_0 hHeld ⊢
  refine pure_ (i := 1) (N := some 129) (v := ?_) (a' := ?_) #[false, true, false, false, false, false, false, false, false, false, false] rfl rfl (any_of HT_.out (by kernel_rfl)) (fun _ _ _ h => h) (Or.inl ⟨by rfl, ?_⟩) ?_ ?_
  rotate_left
  ·intro w'
   go_simp
   with_reducible rfl
  rotate_left
  ·simp only [Act.put, List.setIfInBounds_toArray, List.set_cons_zero, List.set_cons_succ, i64_w, i32_w]
   rfl
  refine pure_ (i := 2) (N := some 130) (v := ?_) (a' := ?_) #[false, true, true, false, false, false, false, false, false, false, false] rfl rfl (any_of HT_.out (by kernel_rfl)) (fun _ _ _ h => h) (Or.inl ⟨by rfl, ?_⟩) ?_ ?_
  rotate_left
  ·intro w'
   go_simp
   with_reducible rfl
  rotate_left
  ·simp only [Act.put, List.setIfInBounds_toArray, List.set_cons_zero, List.set_cons_succ, i64_w, i32_w]
   rfl
  refine pure_ (i := 3) (N := some 131) (v := ?_) (a' := ?_) #[false, true, true, true, false, false, false, false, false, false, false] rfl rfl (any_of HT_.out (by kernel_rfl)) (fun _ _ _ h => h) (Or.inl ⟨by rfl, ?_⟩) ?_ ?_
  rotate_left
  ·intro w'
   go_simp
   with_reducible rfl
  rotate_left
  ·simp only [Act.put, List.setIfInBounds_toArray, List.set_cons_zero, List.set_cons_succ, i64_w, i32_w]
   rfl
  refine pure_ (i := 6) (N := some 134) (v := ?_) (a' := ?_) #[false, true, true, true, false, false, true, false, false, false, false] rfl rfl (any_of HT_.out (by kernel_rfl)) (fun _ _ _ h => h) (Or.inl ⟨by rfl, ?_⟩) ?_ ?_
  rotate_left
  ·intro w'
   go_simp
   with_reducible rfl
  rotate_left
  ·simp only [Act.put, List.setIfInBounds_toArray, List.set_cons_zero, List.set_cons_succ, i64_w, i32_w]
   rfl
  refine pure_ (i := 7) (N := some 135) (v := ?_) (a' := ?_) #[false, true, true, true, false, false, true, true, false, false, false] rfl rfl (any_of HT_.out (by kernel_rfl)) (fun _ _ _ h => h) (Or.inl ⟨by rfl, ?_⟩) ?_ ?_
  rotate_left
  ·intro w'
   go_simp
   with_reducible rfl
  rotate_left
  ·simp only [Act.put, List.setIfInBounds_toArray, List.set_cons_zero, List.set_cons_succ, i64_w, i32_w]
   rfl
  refine pure_ (i := 8) (N := some 136) (v := ?_) (a' := ?_) #[false, true, true, true, false, false, true, true, true, false, false] rfl rfl (any_of HT_.out (by kernel_rfl)) (fun _ _ _ h => h) (Or.inl ⟨by rfl, ?_⟩) ?_ ?_
  rotate_left
  ·intro w'
   go_simp
   with_reducible rfl
  rotate_left
  ·simp only [Act.put, List.setIfInBounds_toArray, List.set_cons_zero, List.set_cons_succ, i64_w, i32_w]
   rfl
  refine take_ (i := 0) (N := some 128) (v := ?_) (a' := ?_) #[true, true, true, true, false, false, true, true, true, false, false] rfl rfl (take_ofW HT_.out HW_.out (by kernel_rfl)) (fun _ _ _ h => h) (Or.inl ⟨by rfl, ?_⟩) hHeld ?_ ?_
  rotate_left
  ·rintro w' ⟨s0, s1, s2, s3⟩
   go_simp
   with_reducible rfl
  rotate_left
  ·simp only [Act.put, List.setIfInBounds_toArray, List.set_cons_zero, List.set_cons_succ, i64_w, i32_w]
   rfl
  refine take_ (i := 4) (N := some 132) (v := ?_) (a' := ?_) #[true, true, true, true, true, false, true, true, true, false, false] rfl rfl (take_ofW HT_.out HW_.out (by kernel_rfl)) (fun _ _ _ h => h) (Or.inl ⟨by rfl, ?_⟩) hHeld ?_ ?_
  rotate_left
  ·rintro w' ⟨s0, s1, s2, s3⟩
   go_simp
   with_reducible rfl
  rotate_left
  ·simp only [Act.put, List.setIfInBounds_toArray, List.set_cons_zero, List.set_cons_succ, i64_w, i32_w]
   rfl
  refine take_ (i := 9) (N := some 137) (v := ?_) (a' := ?_) #[true, true, true, true, true, false, true, true, true, true, false] rfl rfl (take_ofW HT_.out HW_.out (by kernel_rfl)) (fun _ _ _ h => h) (Or.inl ⟨by rfl, ?_⟩) hHeld ?_ ?_
  rotate_left
  ·rintro w' ⟨s0, s1, s2, s3⟩
   go_simp
   with_reducible rfl
  rotate_left
  ·simp only [Act.put, List.setIfInBounds_toArray, List.set_cons_zero, List.set_cons_succ, i64_w, i32_w]
   rfl
  refine one_ (i := 5) (N := some 133) #[true, true, true, true, true, true, true, true, true, true, false] rfl rfl (one_of HT_.out (by kernel_rfl)) (by decide) (fun K hK => ?_)
  refine goes_ Try.func13 (by kernel_rfl) rfl #[.agg #[.slice Ao6 y102.length co6, .int .i64 2], .slice A195_0 (rd_L13 y189 x11_2).length c195_0] (by rfl) rfl rfl (by (try simp only [List.map_toArray, List.map_cons, List.map_nil]); first | done | rfl | (simp only [List.length_drop, List.length_take]; rfl)) ?_
  with_reducible refine (pred_Check.calls _ _ y102 2 _ _ (rd_L13 y189 x11_2) t196 _ ?side1 ?side2 ?side3 ?side4 A141.out).mono ?_
  (case side1 => repeat (first | exact (Kd.R_reads' HO_106000.out).2.2 | (with_reducible refine Kd.C_alloc ?_ _) | (with_reducible refine Kd.C_drewN ?_ _) | (with_reducible refine Kd.C_drew ?_)))
  (case side2 => exact (Kd.R_reads' HO_106000.out).2.1)
  (case side3 => repeat (first | exact (by repeat (first | (with_reducible exact HR195_0.out) | (with_reducible refine Kd.C_alloc ?_ _) | (with_reducible refine Kd.C_drewN ?_ _) | (with_reducible refine Kd.C_drew ?_) | exact HR195_0.out)) | (with_reducible refine Kd.C_alloc ?_ _) | (with_reducible refine Kd.C_drewN ?_ _) | (with_reducible refine Kd.C_drew ?_)))
  (case side4 => exact HC195_0.out)
  rintro e w151 ⟨rfl, hb⟩
  have HS2_ := (hb.cell (World.block_lt_of_cell? _ _ (hHeld.2.2.1))).trans (hHeld.2.2.1)
  have HS3_ := (hb.cell (World.block_lt_of_cell? _ _ (hHeld.2.2.2))).trans (hHeld.2.2.2)
  refine ⟨_, rfl, ?_⟩
  have n0_ := Aside0.mk (Kd.N_below (by (with_reducible repeat (first | apply Kd.N_alloc | apply Kd.N_drewN | apply Kd.N_drew)); exact HO_9.out) hb)
  have n1_ := qR HO_10 hb
  have n2_ := qR HO_106000 hb
  have n3_ := Aside0.mk (Kd.V_below (by (with_reducible repeat (first | apply Kd.V_alloc | apply Kd.V_drewN | apply Kd.V_drew)); exact HL195_0.out) hb)
  have n4_ := qB BK105 hb
  have n5_ := qB BK106 hb
  have n6_ := qB BK107 hb
  have n7_ := qB BK108 hb
  have n8_ := Aside0.mk (Kd.C_below (by repeat (first | (with_reducible exact HR195_0.out) | (with_reducible refine Kd.C_alloc ?_ _) | (with_reducible refine Kd.C_drewN ?_ _) | (with_reducible refine Kd.C_drew ?_) | exact HR195_0.out)) hb)
  have n9_ := qS HB hb
  clear HO_9
  clear HO_10
  clear HO_106000
  clear HL195_0
  clear BK105
  clear BK106
  clear BK107
  clear BK108
  clear HR195_0
  clear HB
  have HO_9 := n0_
  have HO_10 := n1_
  have HO_106000 := n2_
  have HL195_0 := n3_
  have BK105 := n4_
  have BK106 := n5_
  have BK107 := n6_
  have BK108 := n7_
  have HR195_0 := n8_
  have HB := n9_
  clear n0_ n1_ n2_ n3_ n4_ n5_ n6_ n7_ n8_ n9_
  (try clear hb)
  (try clear hb2)
  (try clear hk)
  (try clear hi)
  refine hK.out _ _ ⟨(blk_cell BK105.out 0).trans rfl, (blk_cell BK105.out 1).trans rfl, HS2_, HS3_⟩ (fun hHeld => ?_)
  clear hK K
  refine norm_ (a' := ?_) ?_ ?_
  rotate_left
  ·show Act.put _ (some 133) _ = _
   simp only [Act.put, List.setIfInBounds_toArray, List.set_cons_zero, List.set_cons_succ, i64_w, i32_w]
   rfl
  refine pure_ (i := 10) (N := some 138) (v := ?_) (a' := ?_) #[true, true, true, true, true, true, true, true, true, true, true] rfl rfl (any_of HT_.out (by kernel_rfl)) (fun _ _ _ h => h) (Or.inl ⟨by rfl, ?_⟩) ?_ ?_
  rotate_left
  ·intro w'
   go_simp
   with_reducible rfl
  rotate_left
  ·simp only [Act.put, List.setIfInBounds_toArray, List.set_cons_zero, List.set_cons_succ, i64_w, i32_w]
   rfl
  refine done_ (done_of HT_.out (by kernel_rfl)) ?_
  try go_wp2
  go_ret
  exact ⟨by first | rfl | (simp [errW_none, errW_some] <;> rfl) | (simp [*, errW_none, errW_some] <;> rfl), by repeat (first | (with_reducible first | exact HB.out | apply below_alloc | apply pw_below_drewN | apply below_drew1 | refine below_set ?_ GE105.out | refine below_set ?_ GE106.out | refine below_set ?_ GE107.out | refine below_set ?_ GE108.out) | exact HB.out)⟩
end Go.Proofs.Ytiicfblccklfhaa.PPG2
end
section
namespace Go.Proofs.Ytiicfblccklfhaa.PPG2
open Go.RowKit Go.Proofs.YtiicfblccklfhaaW.PrintWords Go.Proofs.YtiicfblccklfhaaW.PrintLast Go.Proofs.YtiicfblccklfhaaW.PrintMore
attribute [local go_sem] max2_int min2_int max_two min_two max_three min_three max_four min_four
open Go.Proofs.Ytiicfblccklfhaa.Ext Go.Proofs.Ytiicfblccklfhaa.PK Go.Proofs.Ytiicfblccklfhaa.PPF
set_option linter.unusedVariables false
set_option linter.unusedSimpArgs false
theorem rabbetlaw23_PredForms.calls_r3  : rabbetlaw23_PredForms.calls_c.2.2.2.1 :=
 rabbetlaw23_PredForms.calls_r3_c.2.2.2.2.2.2.2.2.2.2.2 rabbetlaw23_PredForms.calls_r3_r0 rabbetlaw23_PredForms.calls_r3_r1 rabbetlaw23_PredForms.calls_r3_r2 rabbetlaw23_PredForms.calls_r3_r3 rabbetlaw23_PredForms.calls_r3_r4 rabbetlaw23_PredForms.calls_r3_r5 rabbetlaw23_PredForms.calls_r3_r6 rabbetlaw23_PredForms.calls_r3_r7 rabbetlaw23_PredForms.calls_r3_r8 rabbetlaw23_PredForms.calls_r3_r9 rabbetlaw23_PredForms.calls_r3_r10
end Go.Proofs.Ytiicfblccklfhaa.PPG2
end
section
namespace Go.Proofs.Ytiicfblccklfhaa.PPG2
open Go.RowKit Go.Proofs.YtiicfblccklfhaaW.PrintWords Go.Proofs.YtiicfblccklfhaaW.PrintLast Go.Proofs.YtiicfblccklfhaaW.PrintMore
attribute [local go_sem] max2_int min2_int max_two min_two max_three min_three max_four min_four
open Go.Proofs.Ytiicfblccklfhaa.Ext Go.Proofs.Ytiicfblccklfhaa.PK Go.Proofs.Ytiicfblccklfhaa.PPF
set_option linter.unusedVariables false
set_option linter.unusedSimpArgs false
theorem rabbetlaw23_PredForms.calls (k : Nat)  (r : Bool) (w : World) (h : rabbetlaw23_PredForms.f k  = some r) : Calls Try.prog 5 #[] w fun e w' => e = .returned (.bool r) ∧ Below w.heap.size w w' :=
 rabbetlaw23_PredForms.calls_c.2.2.2.2 rabbetlaw23_PredForms.calls_r0 rabbetlaw23_PredForms.calls_r1 rabbetlaw23_PredForms.calls_r2 rabbetlaw23_PredForms.calls_r3 k r w h
end Go.Proofs.Ytiicfblccklfhaa.PPG2
end
section
namespace Go.Proofs.Ytiicfblccklfhaa.Pure
open Go.RowKit Go.Proofs.YtiicfblccklfhaaW.PrintWords Go.Proofs.YtiicfblccklfhaaW.PrintLast Go.Proofs.YtiicfblccklfhaaW.PrintMore Go.Proofs.Ytiicfblccklfhaa.Ext Go.Proofs.Ytiicfblccklfhaa.PK Go.Proofs.Ytiicfblccklfhaa.PM Go.Proofs.Ytiicfblccklfhaa.PG Go.Proofs.Ytiicfblccklfhaa.PPF Go.Proofs.Ytiicfblccklfhaa.PPG2
theorem PredForms : ∃ k, rabbetlaw23_PredForms.f k = some true := ⟨60, by decide +kernel⟩
end Go.Proofs.Ytiicfblccklfhaa.Pure
end
section
namespace Go.Proofs.Ytiicfblccklfhaa.predForms
open Go.ChangeShapes Go.WideShapes Go.ChangeAt Go.RowKit Go.Joins
open Go.ChangeMaps (open_string shut_string)
set_option linter.unusedVariables false
theorem own : ownKnob Try.prog.godebug = none := by kernel_rfl
theorem laidOut : laidOutB Try.prog = true := by kernel_rfl
set_option maxRecDepth 1000000 in
theorem contract (H : Type) (enc : TypeId × Value → H) (W : World) (base : Nat) (args : Array Value) (ds gs : List (DataW H)) (before : List MemPlace)
    (hval0 : ∀ (j : Nat) t v, Try.f5.params[j]? = some t → args[j]? = some v → Value.okWide Try.prog W .any base t v)
    (hW : DataW.Whole enc Try.prog Try.f5.params.toList Rows.predFormsSpec.vars false W args.toList ds gs before)
    (hsz0 : (DataW.weightsEach Try.prog (Try.f5.params.toList ++ Rows.predFormsSpec.plain.varTypes Try.prog) (ds ++ gs)).all (· ≤ reachBytes) = true) :
    Calls Try.prog 5 args W fun e W' => ∃ v, e = .returned v ∧ Rows.predFormsSpec.post enc Try.prog Try.f5 false true false false W args v W' := by
  have hval : ∀ (j : Nat) t v, Try.f5.params[j]? = some t → args[j]? = some v → Value.okWide Try.prog W .any base t v := hval0
  have hW' := hW
  obtain ⟨p, q, hA0, hV, rfl, hfz, hnd⟩ := hW
  have hA : DataW.TrodAll enc Try.prog W 0 (fun _ => true) true Try.f5.params.toList args.toList ds p := hA0
  have hsz := hsz0
  rw [Try.params5] at hA hval hsz
  obtain ⟨rfl, rfl, rfl⟩ := trodAll_none hA
  obtain ⟨rfl, rfl⟩ := trodVars_none hV
  clear hA0 hval0 hsz0 hsz
  obtain ⟨k, hk⟩ := Pure.PredForms  
  refine (PPG2.rabbetlaw23_PredForms.calls k  true W  hk).mono fun e W' ⟨he, bel⟩ => ?_
  subst he
  exact ⟨_, rfl, _, _, _, [], _, [], hW', trodAll_mk1 (shut_bool Try.underlying4 _), trodAll_mk0, rfl, bel.frame _, fun h => by cases h⟩
theorem reads (os : Os) {H : Type} (enc : TypeId × Value → H) : ∃ places, DataW.whole enc Try.prog ((World.holding Try.prog os ⟨#[], #[], []⟩).forCall (fun _ _ => 0) ⟨#[], #[], []⟩).memory Try.f5.params.toList Rows.predFormsSpec.vars false (#[] : Array Value).toList 8 = some ([], [], places) :=
  ⟨[], by kernel_rfl⟩
set_option maxRecDepth 100000 in
theorem lifted (os : Os) (started : os.Started) (H : Type) (enc : TypeId × Value → H) (F : Stop.Interp) :
    ReturnsInHanded {} Try.checked os 5 .any ((OpenSpec.ofChange Rows.predFormsSpec).preRow enc Try.prog Try.f5 Rows.predFormsRow.domain false Rows.predFormsRow.laid) (((OpenSpec.ofChange Rows.predFormsSpec).at F).post enc Try.prog Try.f5 false true false false) := by
  obtain ⟨places, hx⟩ := reads os enc
  refine returnsInHanded_of_row (C := Try.checked) (s := OpenSpec.ofChange Rows.predFormsSpec) own started (by kernel_rfl) Try.func5
    (witness_row_at (enc := enc) (C := Try.checked) false (World.holding Try.prog os ⟨#[], #[], []⟩) #[] rfl (by kernel_rfl) (by kernel_rfl) (by kernel_rfl)
      (OpenSpec.preRow_of_cond 8 hx (by kernel_rfl) (fun k hk => by cases hk) (by kernel_rfl) (laidMet_nil _ _))) ?_
  intro W base args ds gs before hval hW _ hcond hsz hL _ _
  exact contract H enc W base args ds gs before hval hW hsz
theorem said : Rows.PredFormsSaid :=
  OpenClaim.holds_of_cond 5 Try.f5 rfl rfl rfl rfl rfl rfl rfl ⟨rfl, rfl, rfl, rfl, rfl⟩ rfl rfl rfl rfl rfl (by kernel_rfl) Try.func5 (by kernel_rfl)
    (of_decide_eq_true (by kernel_rfl)) (by unfold Func.isWrapper; first | (rw [if_pos (by decide +kernel)]; kernel_rfl) | (rw [if_neg (by decide +kernel)]; exact ⟨rfl, rfl⟩))
    (fun os started H enc _ F => by rw [OpenClaim.pre_eq_preRow]; exact lifted os started H enc F)
#print axioms said
end Go.Proofs.Ytiicfblccklfhaa.predForms
end
