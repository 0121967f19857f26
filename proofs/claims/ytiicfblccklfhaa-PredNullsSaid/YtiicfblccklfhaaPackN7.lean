/- The law PredNulls: it returns true for every input, and what was handed in reads as before (part 8 of 8: texts written by this claim's programs and by hand, joined) -/
import Derived.Test.YtiicfblccklfhaaRows
import Derived.WalkKit
import Derived.ProofKit
import Derived.OpenShut
import Derived.ShutString
import Derived.ChangeOld
import Derived.Below
import Derived.SizedLaws
import Derived.Deep.DeepHandedRow
import Derived.Stop.LaidErr
import Derived.Stop.LaidTwo
import Derived.Lib.SmallJoins
import Derived.Test.YtiicfblccklfhaaPackN0
import Derived.Test.YtiicfblccklfhaaPackN1
import Derived.Test.YtiicfblccklfhaaPackN2
import Derived.Test.YtiicfblccklfhaaPackN3
import Derived.Test.YtiicfblccklfhaaPackN4
import Derived.Test.YtiicfblccklfhaaPackN5
import Derived.Test.YtiicfblccklfhaaPackN6
section
namespace Go.Proofs.Ytiicfblccklfhaa.PPN
open Go.RowKit Go.Proofs.YtiicfblccklfhaaW.PrintWords Go.Proofs.YtiicfblccklfhaaW.PrintLast Go.Proofs.YtiicfblccklfhaaW.PrintMore
attribute [local go_sem] max2_int min2_int max_two min_two max_three min_three max_four min_four
open Go.Proofs.Ytiicfblccklfhaa.Ext Go.Proofs.Ytiicfblccklfhaa.PK Go.Proofs.Ytiicfblccklfhaa.PPF
set_option linter.unusedVariables false
set_option linter.unusedSimpArgs false
set_option maxHeartbeats 80000000 in
set_option maxRecDepth 100000 in
theorem rabbetlaw23_PredNulls.calls_r3 : rabbetlaw23_PredNulls.calls_c.2.2.2.1 := by
  intro k A0 c0 l0 a1 a2 a3 r w hu33 hu36 hu26 hu28 HR0 HC0 A5 c7b0 c7b1 t164 t165 A9 t167 t170 t171 t172 t173 t174 t177 A10 c11 c11b0 c11b1 c11b2 t180 t183 A12 ji13 hji13 c14b0 c15b0 y184 Ny184 c17b0 t187 t188 t189 t190 A18 HC19 xiz0_ w20 w21 g166 w22 gb178 w23 GW178 GE178 NB166_178 NB178_166 gb179 w24 GW179 GE179 NB178_179 NB179_178 NB166_179 NB179_166 co25 hnb26 hnc26 hnb27 hnc27 hcz28_0 hcz28_1 hfz28_0 hfz28_1 hnb29 hnc29 hcz30_0 hcz30_1 hcz30_2 hcz30_3 hfz30_0 hfz30_1 hfz30_2 hfz30_3 Ao31 co31 w32 go16 co16 cl16 GB16 GG16 hx16_0 hx16_1 hx16_2 hf16_0 hf16_1 hf16_2 p16 q16 HX33 hx33_0 hf33_0 hx33_1 hf33_1 hx33_2 hf33_2 w34 ad185 p185 q185 p186 q186 HT_ HW_ w35 hx185_0 hx185_1 hx185_2 hx186_0 hx186_1 hx186_2 xiz1_ gb191 w38 xiz2_ GW191 GE191 NB166_191 NB191_166 NB178_191 NB191_178 NB179_191 NB191_179 xiz3_ hs39 hfs39 hns39_0 hns39_1 hms39_0 hms39_1 hs40 hfs40 hns40_0 hns40_1 hms40_0 hms40_1 hs41 hfs41 hns41_0 hns41_1 hms41_0 hms41_1 hs42 hfs42 hns42_0 hns42_1 hms42_0 hms42_1 hs43 hfs43 hns43_0 hns43_1 hms43_0 hms43_1 hs44 hfs44 hns44_0 hns44_1 hms44_0 hms44_1 hs45 hfs45 hns45_0 hns45_1 hms45_0 hms45_1 xiz4_ e186 w46 w47 xiz5_ gb192 gb193 w50 hS_ HO169 HO176 HO182 BK178 BK179 BK191 BK192 BK193 GW192 GE192 NB166_192 NB192_166 NB178_192 NB192_178 NB179_192 NB192_179 NB191_192 NB192_191 NB193_192 NB192_193 GW193 GE193 NB166_193 NB193_166 NB178_193 NB193_178 NB179_193 NB193_179 NB191_193 NB193_191 HI166 HB xiz6_ hs51 hfs51 hns51_0 hns51_1 hns51_2 hns51_4 hms51_0 hms51_1 hms51_2 hms51_4 hs52 hfs52 hns52_0 hns52_1 hns52_2 hns52_4 hms52_0 hms52_1 hms52_2 hms52_4 hs53 hfs53 hns53_0 hns53_1 hns53_2 hns53_4 hms53_0 hms53_1 hms53_2 hms53_4 hs54 hfs54 hns54_0 hns54_1 hns54_2 hns54_4 hms54_0 hms54_1 hms54_2 hms54_4 hs55 hfs55 hns55_0 hns55_1 hns55_2 hns55_4 hms55_0 hms55_1 hms55_2 hms55_4 hs56 hfs56 hns56_0 hns56_1 hns56_2 hns56_4 hms56_0 hms56_1 hms56_2 hms56_4 hs57 hfs57 hns57_0 hns57_1 hns57_2 hns57_4 hms57_0 hms57_1 hms57_2 hms57_4 xiz7_ hs58 hfs58 hns58_0 hns58_1 hns58_2 hns58_3 hms58_0 hms58_1 hms58_2 hms58_3 hs59 hfs59 hns59_0 hns59_1 hns59_2 hns59_3 hms59_0 hms59_1 hms59_2 hms59_3 hs60 hfs60 hns60_0 hns60_1 hns60_2 hns60_3 hms60_0 hms60_1 hms60_2 hms60_3 hs61 hfs61 hns61_0 hns61_1 hns61_2 hns61_3 hms61_0 hms61_1 hms61_2 hms61_3 hs62 hfs62 hns62_0 hns62_1 hns62_2 hns62_3 hms62_0 hms62_1 hms62_2 hms62_3 hs63 hfs63 hns63_0 hns63_1 hns63_2 hns63_3 hms63_0 hms63_1 hms63_2 hms63_3 hs64 hfs64 hns64_0 hns64_1 hns64_2 hns64_3 hms64_0 hms64_1 hms64_2 hms64_3 hHeld hnb65 hnc65 hnb66 hnc66 hnb67 hnc67 hnb68 hnc68 hnb69 hnc69 hcz70_0 hcz70_1 hcz70_2 hcz70_3 hcz70_4 hcz70_5 hcz70_6 hfz70_0 hfz70_1 hfz70_2 hfz70_3 hfz70_4 hfz70_5 hfz70_6 hnb71 hnc71 hnb72 hnc72 hnb73 hnc73 hnb74 hnc74 hcz75_0 hcz75_1 hcz75_2 hcz75_3 hcz75_4 hcz75_5 hcz75_6 hfz75_0 hfz75_1 hfz75_2 hfz75_3 hfz75_4 hfz75_5 hfz75_6 xiz8_ xiz9_ wc u11 u17 u18 u19 u20 u21 u22 u23 u24 u25 u26 u27 u28 u29 u30 u31 u32 u33 u34 u35 u36 u37 u38 u39 u40 u41 u42 u43 u44 u45 u46 u47 u48 u49 u50 u51 u52 u53 u54 u55 u56 u57 u58 u59 u60 u61 u62 u63 u64 u65 u66 u67 u68 u69 u70 u71 u72 u73 u74 u75 u76 u77 u78 u79 u80 u81 u82 u83 u84 u85 u86 u87 u88 u89 u90 u91 u92 u93 u94 u95 u96 u97 u98 u99 u100 u101 hcut
  clear HC19
  try clear p2
  try clear c6
  try clear p6
  try clear c7
  try clear p64
  try clear c65
  try clear c66
  try clear c67
  try clear c68
  try clear c69
  try clear c71
  try clear c72
  try clear c73
  try clear c74
  try clear c76
  try clear hcz70_0
  try clear hcz70_1
  try clear hcz70_2
  try clear hcz70_3
  try clear hcz70_4
  try clear hcz70_5
  try clear hcz70_6
  try clear hcz75_0
  try clear hcz75_1
  try clear hcz75_2
  try clear hcz75_3
  try clear hcz75_4
  try clear hcz75_5
  try clear hcz75_6
  try clear hfz70_0
  try clear hfz70_1
  try clear hfz70_2
  try clear hfz70_3
  try clear hfz70_4
  try clear hfz70_5
  try clear hfz70_6
  try clear hfz75_0
  try clear hfz75_1
  try clear hfz75_2
  try clear hfz75_3
  try clear hfz75_4
  try clear hfz75_5
  try clear hfz75_6
  obtain ⟨kq, x17_18, rfl, HA, HJ18, HO_13, HO_179000, HO_180003, BK178, BK179, BK191, BK192, BK193, HB⟩ := hcut
  have hl13_18 := (Kd.R_reads' HO_13.out).1
  rw [hl13_18] at HO_13
  (try simp only [hl13_18])
  (try simp only [hl13_18] at BK178)
  (try simp only [hl13_18] at BK179)
  (try simp only [hl13_18] at BK191)
  (try simp only [hl13_18] at BK192)
  (try simp only [hl13_18] at BK193)
  (try simp only [hl13_18] at HO_179000)
  (try simp only [hl13_18] at HO_180003)
  cases kq with
  | zero => exact absurd HA.out (by simp [rabbetlaw23_PredNulls.j0])
  | succ kj18 =>
   have H := HA.out
   clear HA
   simp only [rabbetlaw23_PredNulls.j0] at H
   obtain ⟨y194, hy194⟩ : ∃ y_ : List (S28), y_ = (([(⟨((rd_T64 t167 (ji13)).f1), (wrap64 (1 + (wrap64 (Int.tmod a2 6)))), (⟨t187, t188, t189⟩ : S26), false, a3⟩ : S28)] : List (S28))) := ⟨_, rfl⟩
   replace H : ((pred_Row.f kj18 t167 t170 y194 y184).bind fun t197 => (if t197 = 1 then ((pred_Row.f kj18 t167 t170 (([(⟨((rd_T64 t167 (ji13)).f1), 7, (⟨t187, t188, t189⟩ : S26), false, a3⟩ : S28)] : List (S28))) y184).bind fun t201 => (if t201 = x17_18 then ((pred_Row.f kj18 t167 t170 (([(⟨((rd_T64 t167 (ji13)).f1), 8, (⟨t187, t188, t189⟩ : S26), false, a3⟩ : S28)] : List (S28))) y184).bind fun t205 => (if t205 = (wrap64 (2 - x17_18)) then ((pred_Rows.f kj18 t167 t170 (([(⟨((rd_T64 t167 (ji13)).f1), (wrap64 (1 + (wrap64 (Int.tmod a2 6)))), (⟨t187, t188, t189⟩ : S26), false, a3⟩ : S28)] : List (S28))) (([] : List (List (S26))))).bind fun t212 => (some ((t212.length : Int) == 0))) else (some false))) else (some false))) else (some false))) = some r := by first | (rw [hy194]; with_reducible exact H) | (have H2_ := (Option.bind_some _ _).symm.trans H; rw [hy194]; with_reducible exact H2_) | (have H2_ := (Option.bind_some _ _).symm.trans H; with_reducible exact H2_) | with_reducible exact H | (rw [hy194]; exact H) | exact H
   have Ny194 := Aside0.mk hy194
   clear hy194
   replace H := Option.bind_eq_some_iff.mp H
   obtain ⟨t197, A770, H⟩ := H
   replace H : (if t197 = 1 then ((pred_Row.f kj18 t167 t170 (([(⟨((rd_T64 t167 (ji13)).f1), 7, (⟨t187, t188, t189⟩ : S26), false, a3⟩ : S28)] : List (S28))) y184).bind fun t201 => (if t201 = x17_18 then ((pred_Row.f kj18 t167 t170 (([(⟨((rd_T64 t167 (ji13)).f1), 8, (⟨t187, t188, t189⟩ : S26), false, a3⟩ : S28)] : List (S28))) y184).bind fun t205 => (if t205 = (wrap64 (2 - x17_18)) then ((pred_Rows.f kj18 t167 t170 (([(⟨((rd_T64 t167 (ji13)).f1), (wrap64 (1 + (wrap64 (Int.tmod a2 6)))), (⟨t187, t188, t189⟩ : S26), false, a3⟩ : S28)] : List (S28))) (([] : List (List (S26))))).bind fun t212 => (some ((t212.length : Int) == 0))) else (some false))) else (some false))) else (some false)) = some r := H
   have A77 := Aside0.mk A770
   clear A770
   by_cases c78 : t197 = 1
   ·rw [if_pos c78] at H
    have c78b0 : (t197 == 1) = true := beq_iff_eq.mpr c78
    have c78b1 : (t197 != 1) = false := bne_eq_false_iff_eq.mpr c78
    clear c78
    obtain ⟨y198, hy198⟩ : ∃ y_ : List (S28), y_ = (([(⟨((rd_T64 t167 (ji13)).f1), 7, (⟨t187, t188, t189⟩ : S26), false, a3⟩ : S28)] : List (S28))) := ⟨_, rfl⟩
    replace H : ((pred_Row.f kj18 t167 t170 y198 y184).bind fun t201 => (if t201 = x17_18 then ((pred_Row.f kj18 t167 t170 (([(⟨((rd_T64 t167 (ji13)).f1), 8, (⟨t187, t188, t189⟩ : S26), false, a3⟩ : S28)] : List (S28))) y184).bind fun t205 => (if t205 = (wrap64 (2 - x17_18)) then ((pred_Rows.f kj18 t167 t170 (([(⟨((rd_T64 t167 (ji13)).f1), (wrap64 (1 + (wrap64 (Int.tmod a2 6)))), (⟨t187, t188, t189⟩ : S26), false, a3⟩ : S28)] : List (S28))) (([] : List (List (S26))))).bind fun t212 => (some ((t212.length : Int) == 0))) else (some false))) else (some false))) = some r := by first | (rw [hy198]; with_reducible exact H) | (have H2_ := (Option.bind_some _ _).symm.trans H; rw [hy198]; with_reducible exact H2_) | (have H2_ := (Option.bind_some _ _).symm.trans H; with_reducible exact H2_) | with_reducible exact H | (rw [hy198]; exact H) | exact H
    have Ny198 := Aside0.mk hy198
    clear hy198
    replace H := Option.bind_eq_some_iff.mp H
    obtain ⟨t201, A790, H⟩ := H
    replace H : (if t201 = x17_18 then ((pred_Row.f kj18 t167 t170 (([(⟨((rd_T64 t167 (ji13)).f1), 8, (⟨t187, t188, t189⟩ : S26), false, a3⟩ : S28)] : List (S28))) y184).bind fun t205 => (if t205 = (wrap64 (2 - x17_18)) then ((pred_Rows.f kj18 t167 t170 (([(⟨((rd_T64 t167 (ji13)).f1), (wrap64 (1 + (wrap64 (Int.tmod a2 6)))), (⟨t187, t188, t189⟩ : S26), false, a3⟩ : S28)] : List (S28))) (([] : List (List (S26))))).bind fun t212 => (some ((t212.length : Int) == 0))) else (some false))) else (some false)) = some r := H
    have A79 := Aside0.mk A790
    clear A790
    by_cases c80 : t201 = x17_18
    ·rw [if_pos c80] at H
     have c80b0 : (t201 == x17_18) = true := beq_iff_eq.mpr c80
     have c80b1 : (t201 != x17_18) = false := bne_eq_false_iff_eq.mpr c80
     clear c80
     obtain ⟨y202, hy202⟩ : ∃ y_ : List (S28), y_ = (([(⟨((rd_T64 t167 (ji13)).f1), 8, (⟨t187, t188, t189⟩ : S26), false, a3⟩ : S28)] : List (S28))) := ⟨_, rfl⟩
     replace H : ((pred_Row.f kj18 t167 t170 y202 y184).bind fun t205 => (if t205 = (wrap64 (2 - x17_18)) then ((pred_Rows.f kj18 t167 t170 (([(⟨((rd_T64 t167 (ji13)).f1), (wrap64 (1 + (wrap64 (Int.tmod a2 6)))), (⟨t187, t188, t189⟩ : S26), false, a3⟩ : S28)] : List (S28))) (([] : List (List (S26))))).bind fun t212 => (some ((t212.length : Int) == 0))) else (some false))) = some r := by first | (rw [hy202]; with_reducible exact H) | (have H2_ := (Option.bind_some _ _).symm.trans H; rw [hy202]; with_reducible exact H2_) | (have H2_ := (Option.bind_some _ _).symm.trans H; with_reducible exact H2_) | with_reducible exact H | (rw [hy202]; exact H) | exact H
     have Ny202 := Aside0.mk hy202
     clear hy202
     replace H := Option.bind_eq_some_iff.mp H
     obtain ⟨t205, A810, H⟩ := H
     replace H : (if t205 = (wrap64 (2 - x17_18)) then ((pred_Rows.f kj18 t167 t170 (([(⟨((rd_T64 t167 (ji13)).f1), (wrap64 (1 + (wrap64 (Int.tmod a2 6)))), (⟨t187, t188, t189⟩ : S26), false, a3⟩ : S28)] : List (S28))) (([] : List (List (S26))))).bind fun t212 => (some ((t212.length : Int) == 0))) else (some false)) = some r := H
     have A81 := Aside0.mk A810
     clear A810
     by_cases c82 : t205 = (wrap64 (2 - x17_18))
     ·rw [if_pos c82] at H
      have c82b0 : (t205 == (wrap64 (2 - x17_18))) = true := beq_iff_eq.mpr c82
      have c82b1 : (t205 != (wrap64 (2 - x17_18))) = false := bne_eq_false_iff_eq.mpr c82
      clear c82
      obtain ⟨y206, hy206⟩ : ∃ y_ : List (S28), y_ = (([(⟨((rd_T64 t167 (ji13)).f1), (wrap64 (1 + (wrap64 (Int.tmod a2 6)))), (⟨t187, t188, t189⟩ : S26), false, a3⟩ : S28)] : List (S28))) := ⟨_, rfl⟩
      replace H : ((pred_Rows.f kj18 t167 t170 y206 (([] : List (List (S26))))).bind fun t212 => (some ((t212.length : Int) == 0))) = some r := by first | (rw [hy206]; with_reducible exact H) | (have H2_ := (Option.bind_some _ _).symm.trans H; rw [hy206]; with_reducible exact H2_) | (have H2_ := (Option.bind_some _ _).symm.trans H; with_reducible exact H2_) | with_reducible exact H | (rw [hy206]; exact H) | exact H
      have Ny206 := Aside0.mk hy206
      clear hy206
      obtain ⟨y209, hy209⟩ : ∃ y_ : List (List (S26)), y_ = (([] : List (List (S26)))) := ⟨_, rfl⟩
      replace H : ((pred_Rows.f kj18 t167 t170 y206 y209).bind fun t212 => (some ((t212.length : Int) == 0))) = some r := by first | (rw [hy209]; with_reducible exact H) | (have H2_ := (Option.bind_some _ _).symm.trans H; rw [hy209]; with_reducible exact H2_) | (have H2_ := (Option.bind_some _ _).symm.trans H; with_reducible exact H2_) | with_reducible exact H | (rw [hy209]; exact H) | exact H
      have Ny209 := Aside0.mk hy209
      clear hy209
      replace H := Option.bind_eq_some_iff.mp H
      obtain ⟨t212, A830, H⟩ := H
      replace H : (some ((t212.length : Int) == 0)) = some r := H
      have A83 := Aside0.mk A830
      clear A830
      obtain rfl := Option.some.inj H
      have hnb84 := NB178_179.out
      have hnc84 := NB179_178.out
      have hnb85 := NB178_191.out
      have hnc85 := NB191_178.out
      have hnb86 := NB178_192.out
      have hnc86 := NB192_178.out
      have hnb87 := NB178_193.out
      have hnc87 := NB193_178.out
      have hcz88_0 : wc.cell? ⟨gb178, 0, none⟩ = some (.slice (some ad185) t167.length co25) := (blk_cell BK178.out 0).trans rfl
      have hcz88_1 : wc.cell? ⟨gb178, 1, none⟩ = some (.int .i64 t170) := (blk_cell BK178.out 1).trans rfl
      have hfz88_0 := blk_frozen BK178.out 0
      have hfz88_1 := blk_frozen BK178.out 1
      have hnb89 := NB191_179.out
      have hnc89 := NB179_191.out
      have hnb90 := NB191_192.out
      have hnc90 := NB192_191.out
      have hnb91 := NB191_193.out
      have hnc91 := NB193_191.out
      have hcz92_0 : wc.cell? ⟨gb191, 0, none⟩ = some (.string ((rd_T64 t167 (ji13)).f1)) := (blk_cell BK191.out 0).trans rfl
      have hcz92_1 : wc.cell? ⟨gb191, 1, none⟩ = some (.int .i64 (wrap64 (1 + (wrap64 (Int.tmod a2 6))))) := (blk_cell BK191.out 1).trans rfl
      have hcz92_2 : wc.cell? ⟨gb191, 2, none⟩ = some (.int .i64 t187) := (blk_cell BK191.out 2).trans rfl
      have hcz92_3 : wc.cell? ⟨gb191, 3, none⟩ = some (.int .i64 t188) := (blk_cell BK191.out 3).trans rfl
      have hcz92_4 : wc.cell? ⟨gb191, 4, none⟩ = some (.string t189) := (blk_cell BK191.out 4).trans rfl
      have hcz92_5 : wc.cell? ⟨gb191, 5, none⟩ = some (.bool false) := (blk_cell BK191.out 5).trans rfl
      have hcz92_6 : wc.cell? ⟨gb191, 6, none⟩ = some (.bool a3) := (blk_cell BK191.out 6).trans rfl
      have hfz92_0 := blk_frozen BK191.out 0
      have hfz92_1 := blk_frozen BK191.out 1
      have hfz92_2 := blk_frozen BK191.out 2
      have hfz92_3 := blk_frozen BK191.out 3
      have hfz92_4 := blk_frozen BK191.out 4
      have hfz92_5 := blk_frozen BK191.out 5
      have hfz92_6 := blk_frozen BK191.out 6
      go_wp2_with (first | ((with_reducible refine gate_dst (N := 70) rfl ?_); (try (refine gate_guard (by rfl) ?_; dsimp only)); refine Kd.R_lit k28 _ 28 ?hg (N := 70) ?hd (xs := ([(⟨((rd_T64 t167 (ji13)).f1), (wrap64 (1 + (wrap64 (Int.tmod a2 6)))), (⟨t187, t188, t189⟩ : S26), false, a3⟩ : S28)] : List (S28))) (inner := [.string ((rd_T64 t167 (ji13)).f1), .int .i64 (wrap64 (1 + (wrap64 (Int.tmod a2 6)))), .int .i64 t187, .int .i64 t188, .string t189, .bool false, .bool a3]) (ok := fun _ => True) (okp := fun _ => True) ?hr ?hp (fun _ hk => hk) trivial (Below.refl _ _) (Nat.le_refl _) (by simp) ?_; (case hd => rfl); (case hg => rfl); (case hr => first | (go_simp; done) | (go_simp; rfl)); (case hp => exact (Reps.c7 (show Kd.M k28 _ _ _ (⟨((rd_T64 t167 (ji13)).f1), (wrap64 (1 + (wrap64 (Int.tmod a2 6)))), (⟨t187, t188, t189⟩ : S26), false, a3⟩ : S28) [.string ((rd_T64 t167 (ji13)).f1), .int .i64 (wrap64 (1 + (wrap64 (Int.tmod a2 6)))), .int .i64 t187, .int .i64 t188, .string t189, .bool false, .bool a3] from (k28_mkM _ _ _ (⟨((rd_T64 t167 (ji13)).f1), (wrap64 (1 + (wrap64 (Int.tmod a2 6)))), (⟨t187, t188, t189⟩ : S26), false, a3⟩ : S28) )) (Reps.none _ _))); intro v195 w93 ho94 hb hg_ hnew_; clear hg_ hnew_; (first | rw [← Ny194.out] at ho94 | (simp only [Int.reduceToNat] at ho94; rw [← Ny194.out] at ho94)); have n0_ := qR HO_13 hb; have n1_ := qR HO_179000 hb; have n2_ := qR HO_180003 hb; have n3_ := Aside0.mk (Kd.R_lower (Kd.R_newB (Kd.R_newB (Kd.R_newB ho94 (g := gb191) (o := .cells #[.string ((rd_T64 t167 (ji13)).f1), .int .i64 (wrap64 (1 + (wrap64 (Int.tmod a2 6)))), .int .i64 t187, .int .i64 t188, .string t189, .bool false, .bool a3] 28 (0, 0)) (qA BK191)) (g := gb192) (o := .cells #[.string ((rd_T64 t167 (ji13)).f1), .int .i64 7, .int .i64 t187, .int .i64 t188, .string t189, .bool false, .bool a3] 28 (0, 0)) (qA BK192)) (g := gb193) (o := .cells #[.string ((rd_T64 t167 (ji13)).f1), .int .i64 8, .int .i64 t187, .int .i64 t188, .string t189, .bool false, .bool a3] 28 (0, 0)) (qA BK193)) (qZ HB)); have n4_ := qB BK178 hb; have n5_ := qB BK179 hb; have n6_ := qB BK191 hb; have n7_ := qB BK192 hb; have n8_ := qB BK193 hb; have n9_ := qS HB hb; clear HO_13 HO_179000; clear HO_180003 BK178; clear BK179 BK191; clear BK192 BK193 HB; have HO_13 := n0_; have HO_179000 := n1_; have HO_180003 := n2_; have HO196 := n3_; have BK178 := n4_; have BK179 := n5_; have BK191 := n6_; have BK192 := n7_; have BK193 := n8_; have HB := n9_; clear n0_ n1_ n2_ n3_ n4_ n5_ n6_ n7_ n8_ n9_; clear hb ho94; obtain ⟨Ao95, co95, eo95⟩ := Kd.R_slice HO196.out; subst eo95) | ((with_reducible refine gate_callee (f := 17) rfl ?_); refine goesL_ (some 72) rfl rfl Try.func17 (by kernel_rfl) rfl #[.agg #[.slice (some ad185) t167.length co25, .int .i64 t170], .slice Ao95 y194.length co95, .slice (some ⟨go16, 0, none⟩) y184.length co16] rfl (by (try simp only [List.map_toArray, List.map_cons, List.map_nil]); first | done | rfl | (simp only [List.length_drop, List.length_take]; rfl)) ?_; (with_reducible refine (pred_Row.calls kj18 _ _ t167 t170 _ _ y194 _ _ y184 t197 _ ?side1 ?side2 ?side3 ?side4 ?side5 ?side6 A77.out).mono ?_); (case side1 => repeat (first | exact (Kd.R_reads' HO_179000.out).2.2 | (with_reducible refine Kd.C_alloc ?_ _) | (with_reducible refine Kd.C_drewN ?_ _) | (with_reducible refine Kd.C_drew ?_))); (case side2 => exact (Kd.R_reads' HO_179000.out).2.1); (case side3 => repeat (first | exact (Kd.R_reads' HO196.out).2.2 | (with_reducible refine Kd.C_alloc ?_ _) | (with_reducible refine Kd.C_drewN ?_ _) | (with_reducible refine Kd.C_drew ?_))); (case side4 => exact (Kd.R_reads' HO196.out).2.1); (case side5 => repeat (first | exact (Kd.R_reads' HO_13.out).2.2 | (with_reducible refine Kd.C_alloc ?_ _) | (with_reducible refine Kd.C_drewN ?_ _) | (with_reducible refine Kd.C_drew ?_))); (case side6 => exact (Kd.R_reads' HO_13.out).2.1); rintro e w96 ⟨rfl, hb⟩; refine ⟨_, rfl, ?_⟩; have n0_ := qR HO_13 hb; have n1_ := qR HO_179000 hb; have n2_ := qR HO_180003 hb; have n3_ := qR HO196 hb; have n4_ := qB BK178 hb; have n5_ := qB BK179 hb; have n6_ := qB BK191 hb; have n7_ := qB BK192 hb; have n8_ := qB BK193 hb; have n9_ := qS HB hb; clear HO_13 HO_179000; clear HO_180003 HO196; clear BK178 BK179; clear BK191 BK192; clear BK193 HB; have HO_13 := n0_; have HO_179000 := n1_; have HO_180003 := n2_; have HO196 := n3_; have BK178 := n4_; have BK179 := n5_; have BK191 := n6_; have BK192 := n7_; have BK193 := n8_; have HB := n9_; clear n0_ n1_ n2_ n3_ n4_ n5_ n6_ n7_ n8_ n9_; (try clear hb); have hcz97_0 : w96.cell? ⟨gb178, 0, none⟩ = some (.slice (some ad185) t167.length co25) := (blk_cell BK178.out 0).trans rfl; have hcz97_1 : w96.cell? ⟨gb178, 1, none⟩ = some (.int .i64 t170) := (blk_cell BK178.out 1).trans rfl; have hfz97_0 := blk_frozen BK178.out 0; have hfz97_1 := blk_frozen BK178.out 1; have hnb98 := NB192_179.out; have hnc98 := NB179_192.out; have hnb99 := NB192_193.out; have hnc99 := NB193_192.out; have hcz100_0 : w96.cell? ⟨gb192, 0, none⟩ = some (.string ((rd_T64 t167 (ji13)).f1)) := (blk_cell BK192.out 0).trans rfl; have hcz100_1 : w96.cell? ⟨gb192, 1, none⟩ = some (.int .i64 7) := (blk_cell BK192.out 1).trans rfl; have hcz100_2 : w96.cell? ⟨gb192, 2, none⟩ = some (.int .i64 t187) := (blk_cell BK192.out 2).trans rfl; have hcz100_3 : w96.cell? ⟨gb192, 3, none⟩ = some (.int .i64 t188) := (blk_cell BK192.out 3).trans rfl; have hcz100_4 : w96.cell? ⟨gb192, 4, none⟩ = some (.string t189) := (blk_cell BK192.out 4).trans rfl; have hcz100_5 : w96.cell? ⟨gb192, 5, none⟩ = some (.bool false) := (blk_cell BK192.out 5).trans rfl; have hcz100_6 : w96.cell? ⟨gb192, 6, none⟩ = some (.bool a3) := (blk_cell BK192.out 6).trans rfl; have hfz100_0 := blk_frozen BK192.out 0; have hfz100_1 := blk_frozen BK192.out 1; have hfz100_2 := blk_frozen BK192.out 2; have hfz100_3 := blk_frozen BK192.out 3; have hfz100_4 := blk_frozen BK192.out 4; have hfz100_5 := blk_frozen BK192.out 5; have hfz100_6 := blk_frozen BK192.out 6) | ((with_reducible refine gate_dst (N := 77) rfl ?_); (try (refine gate_guard (by rfl) ?_; dsimp only)); refine Kd.R_lit k28 _ 28 ?hg (N := 77) ?hd (xs := ([(⟨((rd_T64 t167 (ji13)).f1), 7, (⟨t187, t188, t189⟩ : S26), false, a3⟩ : S28)] : List (S28))) (inner := [.string ((rd_T64 t167 (ji13)).f1), .int .i64 7, .int .i64 t187, .int .i64 t188, .string t189, .bool false, .bool a3]) (ok := fun _ => True) (okp := fun _ => True) ?hr ?hp (fun _ hk => hk) trivial (Below.refl _ _) (Nat.le_refl _) (by simp) ?_; (case hd => rfl); (case hg => rfl); (case hr => first | (go_simp; done) | (go_simp; rfl)); (case hp => exact (Reps.c7 (show Kd.M k28 _ _ _ (⟨((rd_T64 t167 (ji13)).f1), 7, (⟨t187, t188, t189⟩ : S26), false, a3⟩ : S28) [.string ((rd_T64 t167 (ji13)).f1), .int .i64 7, .int .i64 t187, .int .i64 t188, .string t189, .bool false, .bool a3] from (k28_mkM _ _ _ (⟨((rd_T64 t167 (ji13)).f1), 7, (⟨t187, t188, t189⟩ : S26), false, a3⟩ : S28) )) (Reps.none _ _))); intro v199 w101 ho102 hb hg_ hnew_; clear hg_ hnew_; (first | rw [← Ny198.out] at ho102 | (simp only [Int.reduceToNat] at ho102; rw [← Ny198.out] at ho102)); have n0_ := qR HO_13 hb; have n1_ := qR HO_179000 hb; have n2_ := qR HO_180003 hb; have n3_ := Aside0.mk (Kd.R_elder' (by (with_reducible repeat (first | apply Kd.R_alloc | apply Kd.R_drewN | apply Kd.R_drew)); exact HO196.out) (Kd.R_base ho102) hb); have n4_ := Aside0.mk (Kd.R_lower (Kd.R_newB (Kd.R_newB (Kd.R_newB (Kd.R_new' ho102 (Kd.R_lt (by (with_reducible repeat (first | apply Kd.R_alloc | apply Kd.R_drewN | apply Kd.R_drew)); exact HO196.out))) (g := gb191) (o := .cells #[.string ((rd_T64 t167 (ji13)).f1), .int .i64 (wrap64 (1 + (wrap64 (Int.tmod a2 6)))), .int .i64 t187, .int .i64 t188, .string t189, .bool false, .bool a3] 28 (0, 0)) (qA BK191)) (g := gb192) (o := .cells #[.string ((rd_T64 t167 (ji13)).f1), .int .i64 7, .int .i64 t187, .int .i64 t188, .string t189, .bool false, .bool a3] 28 (0, 0)) (qA BK192)) (g := gb193) (o := .cells #[.string ((rd_T64 t167 (ji13)).f1), .int .i64 8, .int .i64 t187, .int .i64 t188, .string t189, .bool false, .bool a3] 28 (0, 0)) (qA BK193)) (qZ HB)); have n5_ := qB BK178 hb; have n6_ := qB BK179 hb; have n7_ := qB BK191 hb; have n8_ := qB BK192 hb; have n9_ := qB BK193 hb; have n10_ := qS HB hb; clear HO_13 HO_179000; clear HO_180003 HO196; clear BK178 BK179; clear BK191 BK192; clear BK193 HB; have HO_13 := n0_; have HO_179000 := n1_; have HO_180003 := n2_; have HO196 := n3_; have HO200 := n4_; have BK178 := n5_; have BK179 := n6_; have BK191 := n7_; have BK192 := n8_; have BK193 := n9_; have HB := n10_; clear n0_ n1_ n2_ n3_ n4_ n5_ n6_ n7_ n8_ n9_ n10_; clear hb ho102; obtain ⟨Ao103, co103, eo103⟩ := Kd.R_slice HO200.out; subst eo103) | (go_at_call 17; (with_reducible refine (pred_Row.calls kj18 _ _ t167 t170 _ _ y198 _ _ y184 t201 _ ?side1 ?side2 ?side3 ?side4 ?side5 ?side6 A79.out).mono ?_); (case side1 => repeat (first | exact (Kd.R_reads' HO_179000.out).2.2 | (with_reducible refine Kd.C_alloc ?_ _) | (with_reducible refine Kd.C_drewN ?_ _) | (with_reducible refine Kd.C_drew ?_))); (case side2 => exact (Kd.R_reads' HO_179000.out).2.1); (case side3 => repeat (first | exact (Kd.R_reads' HO200.out).2.2 | (with_reducible refine Kd.C_alloc ?_ _) | (with_reducible refine Kd.C_drewN ?_ _) | (with_reducible refine Kd.C_drew ?_))); (case side4 => exact (Kd.R_reads' HO200.out).2.1); (case side5 => repeat (first | exact (Kd.R_reads' HO_13.out).2.2 | (with_reducible refine Kd.C_alloc ?_ _) | (with_reducible refine Kd.C_drewN ?_ _) | (with_reducible refine Kd.C_drew ?_))); (case side6 => exact (Kd.R_reads' HO_13.out).2.1); rintro e w104 ⟨rfl, hb⟩; have n0_ := qR HO_13 hb; have n1_ := qR HO_179000 hb; have n2_ := qR HO_180003 hb; have n3_ := qR HO196 hb; have n4_ := qR HO200 hb; have n5_ := qB BK178 hb; have n6_ := qB BK179 hb; have n7_ := qB BK191 hb; have n8_ := qB BK192 hb; have n9_ := qB BK193 hb; have n10_ := qS HB hb; clear HO_13 HO_179000; clear HO_180003 HO196; clear HO200 BK178; clear BK179 BK191; clear BK192 BK193 HB; have HO_13 := n0_; have HO_179000 := n1_; have HO_180003 := n2_; have HO196 := n3_; have HO200 := n4_; have BK178 := n5_; have BK179 := n6_; have BK191 := n7_; have BK192 := n8_; have BK193 := n9_; have HB := n10_; clear n0_ n1_ n2_ n3_ n4_ n5_ n6_ n7_ n8_ n9_ n10_; (try clear hb); have hcz105_0 : w104.cell? ⟨gb178, 0, none⟩ = some (.slice (some ad185) t167.length co25) := (blk_cell BK178.out 0).trans rfl; have hcz105_1 : w104.cell? ⟨gb178, 1, none⟩ = some (.int .i64 t170) := (blk_cell BK178.out 1).trans rfl; have hfz105_0 := blk_frozen BK178.out 0; have hfz105_1 := blk_frozen BK178.out 1; have hnb106 := NB193_179.out; have hnc106 := NB179_193.out; have hcz107_0 : w104.cell? ⟨gb193, 0, none⟩ = some (.string ((rd_T64 t167 (ji13)).f1)) := (blk_cell BK193.out 0).trans rfl; have hcz107_1 : w104.cell? ⟨gb193, 1, none⟩ = some (.int .i64 8) := (blk_cell BK193.out 1).trans rfl; have hcz107_2 : w104.cell? ⟨gb193, 2, none⟩ = some (.int .i64 t187) := (blk_cell BK193.out 2).trans rfl; have hcz107_3 : w104.cell? ⟨gb193, 3, none⟩ = some (.int .i64 t188) := (blk_cell BK193.out 3).trans rfl; have hcz107_4 : w104.cell? ⟨gb193, 4, none⟩ = some (.string t189) := (blk_cell BK193.out 4).trans rfl; have hcz107_5 : w104.cell? ⟨gb193, 5, none⟩ = some (.bool false) := (blk_cell BK193.out 5).trans rfl; have hcz107_6 : w104.cell? ⟨gb193, 6, none⟩ = some (.bool a3) := (blk_cell BK193.out 6).trans rfl; have hfz107_0 := blk_frozen BK193.out 0; have hfz107_1 := blk_frozen BK193.out 1; have hfz107_2 := blk_frozen BK193.out 2; have hfz107_3 := blk_frozen BK193.out 3; have hfz107_4 := blk_frozen BK193.out 4; have hfz107_5 := blk_frozen BK193.out 5; have hfz107_6 := blk_frozen BK193.out 6) | ((with_reducible refine gate_dst (N := 86) rfl ?_); (try (refine gate_guard (by rfl) ?_; dsimp only)); refine Kd.R_lit k28 _ 28 ?hg (N := 86) ?hd (xs := ([(⟨((rd_T64 t167 (ji13)).f1), 8, (⟨t187, t188, t189⟩ : S26), false, a3⟩ : S28)] : List (S28))) (inner := [.string ((rd_T64 t167 (ji13)).f1), .int .i64 8, .int .i64 t187, .int .i64 t188, .string t189, .bool false, .bool a3]) (ok := fun _ => True) (okp := fun _ => True) ?hr ?hp (fun _ hk => hk) trivial (Below.refl _ _) (Nat.le_refl _) (by simp) ?_; (case hd => rfl); (case hg => rfl); (case hr => first | (go_simp; done) | (go_simp; rfl)); (case hp => exact (Reps.c7 (show Kd.M k28 _ _ _ (⟨((rd_T64 t167 (ji13)).f1), 8, (⟨t187, t188, t189⟩ : S26), false, a3⟩ : S28) [.string ((rd_T64 t167 (ji13)).f1), .int .i64 8, .int .i64 t187, .int .i64 t188, .string t189, .bool false, .bool a3] from (k28_mkM _ _ _ (⟨((rd_T64 t167 (ji13)).f1), 8, (⟨t187, t188, t189⟩ : S26), false, a3⟩ : S28) )) (Reps.none _ _))); intro v203 w108 ho109 hb hg_ hnew_; clear hg_ hnew_; (first | rw [← Ny202.out] at ho109 | (simp only [Int.reduceToNat] at ho109; rw [← Ny202.out] at ho109)); have n0_ := qR HO_13 hb; have n1_ := qR HO_179000 hb; have n2_ := qR HO_180003 hb; have n3_ := Aside0.mk (Kd.R_elder' (by (with_reducible repeat (first | apply Kd.R_alloc | apply Kd.R_drewN | apply Kd.R_drew)); exact HO196.out) (Kd.R_base ho109) hb); have n4_ := Aside0.mk (Kd.R_elder' (by (with_reducible repeat (first | apply Kd.R_alloc | apply Kd.R_drewN | apply Kd.R_drew)); exact HO200.out) (Kd.R_base ho109) hb); have n5_ := Aside0.mk (Kd.R_lower (Kd.R_newB (Kd.R_newB (Kd.R_newB (Kd.R_new' (Kd.R_new' ho109 (Kd.R_lt (by (with_reducible repeat (first | apply Kd.R_alloc | apply Kd.R_drewN | apply Kd.R_drew)); exact HO196.out))) (Kd.R_lt (by (with_reducible repeat (first | apply Kd.R_alloc | apply Kd.R_drewN | apply Kd.R_drew)); exact HO200.out))) (g := gb191) (o := .cells #[.string ((rd_T64 t167 (ji13)).f1), .int .i64 (wrap64 (1 + (wrap64 (Int.tmod a2 6)))), .int .i64 t187, .int .i64 t188, .string t189, .bool false, .bool a3] 28 (0, 0)) (qA BK191)) (g := gb192) (o := .cells #[.string ((rd_T64 t167 (ji13)).f1), .int .i64 7, .int .i64 t187, .int .i64 t188, .string t189, .bool false, .bool a3] 28 (0, 0)) (qA BK192)) (g := gb193) (o := .cells #[.string ((rd_T64 t167 (ji13)).f1), .int .i64 8, .int .i64 t187, .int .i64 t188, .string t189, .bool false, .bool a3] 28 (0, 0)) (qA BK193)) (qZ HB)); have n6_ := qB BK178 hb; have n7_ := qB BK179 hb; have n8_ := qB BK191 hb; have n9_ := qB BK192 hb; have n10_ := qB BK193 hb; have n11_ := qS HB hb; clear HO_13 HO_179000; clear HO_180003 HO196; clear HO200 BK178; clear BK179 BK191; clear BK192 BK193 HB; have HO_13 := n0_; have HO_179000 := n1_; have HO_180003 := n2_; have HO196 := n3_; have HO200 := n4_; have HO204 := n5_; have BK178 := n6_; have BK179 := n7_; have BK191 := n8_; have BK192 := n9_; have BK193 := n10_; have HB := n11_; clear n0_ n1_ n2_ n3_ n4_ n5_ n6_ n7_ n8_ n9_ n10_ n11_; clear hb ho109; obtain ⟨Ao110, co110, eo110⟩ := Kd.R_slice HO204.out; subst eo110) | (go_at_call 17; (with_reducible refine (pred_Row.calls kj18 _ _ t167 t170 _ _ y202 _ _ y184 t205 _ ?side1 ?side2 ?side3 ?side4 ?side5 ?side6 A81.out).mono ?_); (case side1 => repeat (first | exact (Kd.R_reads' HO_179000.out).2.2 | (with_reducible refine Kd.C_alloc ?_ _) | (with_reducible refine Kd.C_drewN ?_ _) | (with_reducible refine Kd.C_drew ?_))); (case side2 => exact (Kd.R_reads' HO_179000.out).2.1); (case side3 => repeat (first | exact (Kd.R_reads' HO204.out).2.2 | (with_reducible refine Kd.C_alloc ?_ _) | (with_reducible refine Kd.C_drewN ?_ _) | (with_reducible refine Kd.C_drew ?_))); (case side4 => exact (Kd.R_reads' HO204.out).2.1); (case side5 => repeat (first | exact (Kd.R_reads' HO_13.out).2.2 | (with_reducible refine Kd.C_alloc ?_ _) | (with_reducible refine Kd.C_drewN ?_ _) | (with_reducible refine Kd.C_drew ?_))); (case side6 => exact (Kd.R_reads' HO_13.out).2.1); rintro e w111 ⟨rfl, hb⟩; have n0_ := qR HO_13 hb; have n1_ := qR HO_179000 hb; have n2_ := qR HO_180003 hb; have n3_ := qR HO196 hb; have n4_ := qR HO200 hb; have n5_ := qR HO204 hb; have n6_ := qB BK178 hb; have n7_ := qB BK179 hb; have n8_ := qB BK191 hb; have n9_ := qB BK192 hb; have n10_ := qB BK193 hb; have n11_ := qS HB hb; clear HO_13 HO_179000; clear HO_180003 HO196; clear HO200 HO204; clear BK178 BK179; clear BK191 BK192; clear BK193 HB; have HO_13 := n0_; have HO_179000 := n1_; have HO_180003 := n2_; have HO196 := n3_; have HO200 := n4_; have HO204 := n5_; have BK178 := n6_; have BK179 := n7_; have BK191 := n8_; have BK192 := n9_; have BK193 := n10_; have HB := n11_; clear n0_ n1_ n2_ n3_ n4_ n5_ n6_ n7_ n8_ n9_ n10_ n11_; (try clear hb); have hcz112_0 : w111.cell? ⟨gb178, 0, none⟩ = some (.slice (some ad185) t167.length co25) := (blk_cell BK178.out 0).trans rfl; have hcz112_1 : w111.cell? ⟨gb178, 1, none⟩ = some (.int .i64 t170) := (blk_cell BK178.out 1).trans rfl; have hfz112_0 := blk_frozen BK178.out 0; have hfz112_1 := blk_frozen BK178.out 1; have hcz113_0 : w111.cell? ⟨gb191, 0, none⟩ = some (.string ((rd_T64 t167 (ji13)).f1)) := (blk_cell BK191.out 0).trans rfl; have hcz113_1 : w111.cell? ⟨gb191, 1, none⟩ = some (.int .i64 (wrap64 (1 + (wrap64 (Int.tmod a2 6))))) := (blk_cell BK191.out 1).trans rfl; have hcz113_2 : w111.cell? ⟨gb191, 2, none⟩ = some (.int .i64 t187) := (blk_cell BK191.out 2).trans rfl; have hcz113_3 : w111.cell? ⟨gb191, 3, none⟩ = some (.int .i64 t188) := (blk_cell BK191.out 3).trans rfl; have hcz113_4 : w111.cell? ⟨gb191, 4, none⟩ = some (.string t189) := (blk_cell BK191.out 4).trans rfl; have hcz113_5 : w111.cell? ⟨gb191, 5, none⟩ = some (.bool false) := (blk_cell BK191.out 5).trans rfl; have hcz113_6 : w111.cell? ⟨gb191, 6, none⟩ = some (.bool a3) := (blk_cell BK191.out 6).trans rfl; have hfz113_0 := blk_frozen BK191.out 0; have hfz113_1 := blk_frozen BK191.out 1; have hfz113_2 := blk_frozen BK191.out 2; have hfz113_3 := blk_frozen BK191.out 3; have hfz113_4 := blk_frozen BK191.out 4; have hfz113_5 := blk_frozen BK191.out 5; have hfz113_6 := blk_frozen BK191.out 6) | ((with_reducible refine gate_dst (N := 96) rfl ?_); (try (refine gate_guard (by rfl) ?_; dsimp only)); refine Kd.R_lit k28 _ 28 ?hg (N := 96) ?hd (xs := ([(⟨((rd_T64 t167 (ji13)).f1), (wrap64 (1 + (wrap64 (Int.tmod a2 6)))), (⟨t187, t188, t189⟩ : S26), false, a3⟩ : S28)] : List (S28))) (inner := [.string ((rd_T64 t167 (ji13)).f1), .int .i64 (wrap64 (1 + (wrap64 (Int.tmod a2 6)))), .int .i64 t187, .int .i64 t188, .string t189, .bool false, .bool a3]) (ok := fun _ => True) (okp := fun _ => True) ?hr ?hp (fun _ hk => hk) trivial (Below.refl _ _) (Nat.le_refl _) (by simp) ?_; (case hd => rfl); (case hg => rfl); (case hr => first | (go_simp; done) | (go_simp; rfl)); (case hp => exact (Reps.c7 (show Kd.M k28 _ _ _ (⟨((rd_T64 t167 (ji13)).f1), (wrap64 (1 + (wrap64 (Int.tmod a2 6)))), (⟨t187, t188, t189⟩ : S26), false, a3⟩ : S28) [.string ((rd_T64 t167 (ji13)).f1), .int .i64 (wrap64 (1 + (wrap64 (Int.tmod a2 6)))), .int .i64 t187, .int .i64 t188, .string t189, .bool false, .bool a3] from (k28_mkM _ _ _ (⟨((rd_T64 t167 (ji13)).f1), (wrap64 (1 + (wrap64 (Int.tmod a2 6)))), (⟨t187, t188, t189⟩ : S26), false, a3⟩ : S28) )) (Reps.none _ _))); intro v207 w114 ho115 hb hg_ hnew_; clear hg_ hnew_; (first | rw [← Ny206.out] at ho115 | (simp only [Int.reduceToNat] at ho115; rw [← Ny206.out] at ho115)); have n0_ := qR HO_13 hb; have n1_ := qR HO_179000 hb; have n2_ := qR HO_180003 hb; have n3_ := Aside0.mk (Kd.R_elder' (by (with_reducible repeat (first | apply Kd.R_alloc | apply Kd.R_drewN | apply Kd.R_drew)); exact HO196.out) (Kd.R_base ho115) hb); have n4_ := Aside0.mk (Kd.R_elder' (by (with_reducible repeat (first | apply Kd.R_alloc | apply Kd.R_drewN | apply Kd.R_drew)); exact HO200.out) (Kd.R_base ho115) hb); have n5_ := Aside0.mk (Kd.R_elder' (by (with_reducible repeat (first | apply Kd.R_alloc | apply Kd.R_drewN | apply Kd.R_drew)); exact HO204.out) (Kd.R_base ho115) hb); have n6_ := Aside0.mk (Kd.R_lower (Kd.R_newB (Kd.R_newB (Kd.R_newB (Kd.R_new' (Kd.R_new' (Kd.R_new' ho115 (Kd.R_lt (by (with_reducible repeat (first | apply Kd.R_alloc | apply Kd.R_drewN | apply Kd.R_drew)); exact HO196.out))) (Kd.R_lt (by (with_reducible repeat (first | apply Kd.R_alloc | apply Kd.R_drewN | apply Kd.R_drew)); exact HO200.out))) (Kd.R_lt (by (with_reducible repeat (first | apply Kd.R_alloc | apply Kd.R_drewN | apply Kd.R_drew)); exact HO204.out))) (g := gb191) (o := .cells #[.string ((rd_T64 t167 (ji13)).f1), .int .i64 (wrap64 (1 + (wrap64 (Int.tmod a2 6)))), .int .i64 t187, .int .i64 t188, .string t189, .bool false, .bool a3] 28 (0, 0)) (qA BK191)) (g := gb192) (o := .cells #[.string ((rd_T64 t167 (ji13)).f1), .int .i64 7, .int .i64 t187, .int .i64 t188, .string t189, .bool false, .bool a3] 28 (0, 0)) (qA BK192)) (g := gb193) (o := .cells #[.string ((rd_T64 t167 (ji13)).f1), .int .i64 8, .int .i64 t187, .int .i64 t188, .string t189, .bool false, .bool a3] 28 (0, 0)) (qA BK193)) (qZ HB)); have n7_ := qB BK178 hb; have n8_ := qB BK179 hb; have n9_ := qB BK191 hb; have n10_ := qB BK192 hb; have n11_ := qB BK193 hb; have n12_ := qS HB hb; clear HO_13 HO_179000; clear HO_180003 HO196; clear HO200 HO204; clear BK178 BK179; clear BK191 BK192; clear BK193 HB; have HO_13 := n0_; have HO_179000 := n1_; have HO_180003 := n2_; have HO196 := n3_; have HO200 := n4_; have HO204 := n5_; have HO208 := n6_; have BK178 := n7_; have BK179 := n8_; have BK191 := n9_; have BK192 := n10_; have BK193 := n11_; have HB := n12_; clear n0_ n1_ n2_ n3_ n4_ n5_ n6_ n7_ n8_ n9_ n10_ n11_ n12_; clear hb ho115) | ((with_reducible refine gate_dst (N := 97) rfl ?_); (try (refine gate_guard (by rfl) ?_; dsimp only)); refine Kd.S_lit (Kd.slice 26 k26) _ 52 ?hg (N := 97) ?hd (xs := ([] : List (List (S26)))) (inner := []) (ok := fun _ => True) (okp := fun _ => True) ?hr ?hp (fun _ hk => hk) trivial (Below.refl _ _) (Nat.le_refl _) (by simp) ?_; (case hd => rfl); (case hg => rfl); (case hr => first | (go_simp; done) | (go_simp; rfl)); (case hp => exact (Reps.none _ _)); intro v210 w116 ho117 hb hg_ hnew_; clear hg_ hnew_; (first | rw [← Ny209.out] at ho117 | (simp only [Int.reduceToNat] at ho117; rw [← Ny209.out] at ho117)); have n0_ := qR HO_13 hb; have n1_ := qR HO_179000 hb; have n2_ := qR HO_180003 hb; have n3_ := qR HO196 hb; have n4_ := qR HO200 hb; have n5_ := qR HO204 hb; have n6_ := qR HO208 hb; have n7_ := Aside0.mk (Kd.S_lower (Kd.S_new' ho117 (Kd.R_lt (by (with_reducible repeat (first | apply Kd.R_alloc | apply Kd.R_drewN | apply Kd.R_drew)); exact HO_13.out))) (qZ HB)); have n8_ := qB BK178 hb; have n9_ := qB BK179 hb; have n10_ := qB BK191 hb; have n11_ := qB BK192 hb; have n12_ := qB BK193 hb; have n13_ := qS HB hb; clear HO_13 HO_179000; clear HO_180003 HO196; clear HO200 HO204; clear HO208 BK178; clear BK179 BK191; clear BK192 BK193 HB; have HO_13 := n0_; have HO_179000 := n1_; have HO_180003 := n2_; have HO196 := n3_; have HO200 := n4_; have HO204 := n5_; have HO208 := n6_; have HO211 := n7_; have BK178 := n8_; have BK179 := n9_; have BK191 := n10_; have BK192 := n11_; have BK193 := n12_; have HB := n13_; clear n0_ n1_ n2_ n3_ n4_ n5_ n6_ n7_ n8_ n9_ n10_ n11_ n12_ n13_; clear hb ho117; obtain ⟨Ao118, co118, eo118⟩ := Kd.R_slice HO208.out; subst eo118; obtain ⟨Ao119, co119, eo119⟩ := Kd.S_slice HO211.out; subst eo119) | (go_at_call 15; (with_reducible refine (pred_Rows.calls kj18 _ _ t167 t170 _ _ y206 _ _ y209 t212 _ ?side1 ?side2 ?side3 ?side4 ?side5 ?side6 A83.out).mono ?_); (case side1 => repeat (first | exact (Kd.R_reads' HO_179000.out).2.2 | (with_reducible refine Kd.C_alloc ?_ _) | (with_reducible refine Kd.C_drewN ?_ _) | (with_reducible refine Kd.C_drew ?_))); (case side2 => exact (Kd.R_reads' HO_179000.out).2.1); (case side3 => repeat (first | exact (Kd.R_reads' HO208.out).2.2 | (with_reducible refine Kd.C_alloc ?_ _) | (with_reducible refine Kd.C_drewN ?_ _) | (with_reducible refine Kd.C_drew ?_))); (case side4 => exact (Kd.R_reads' HO208.out).2.1); (case side5 => repeat (first | exact (Kd.S_reads' HO211.out).2.2 | (with_reducible refine Kd.C_alloc ?_ _) | (with_reducible refine Kd.C_drewN ?_ _) | (with_reducible refine Kd.C_drew ?_))); (case side6 => exact (Kd.S_reads' HO211.out).2.1); rintro e w120 ⟨v213, rfl, ho0, hb⟩; have n0_ := qR HO_13 hb; have n1_ := qR HO_179000 hb; have n2_ := Aside0.mk (Kd.R_elder' (by (with_reducible repeat (first | apply Kd.R_alloc | apply Kd.R_drewN | apply Kd.R_drew)); exact HO_180003.out) (Kd.R_base ho0) hb); have n3_ := qR HO196 hb; have n4_ := qR HO200 hb; have n5_ := qR HO204 hb; have n6_ := qR HO208 hb; have n7_ := Aside0.mk (Kd.S_below (by (with_reducible repeat (first | apply Kd.S_alloc | apply Kd.S_drewN | apply Kd.S_drew)); exact HO211.out) hb); have n8_ := Aside0.mk (Kd.R_lower (Kd.R_new' ho0 (Kd.R_lt (by (with_reducible repeat (first | apply Kd.R_alloc | apply Kd.R_drewN | apply Kd.R_drew)); exact HO_180003.out))) (qZ HB)); have n9_ := qB BK178 hb; have n10_ := qB BK179 hb; have n11_ := qB BK191 hb; have n12_ := qB BK192 hb; have n13_ := qB BK193 hb; have n14_ := qS HB hb; clear HO_13 HO_179000; clear HO_180003 HO196; clear HO200 HO204; clear HO208 HO211; clear BK178 BK179; clear BK191 BK192; clear BK193 HB; have HO_13 := n0_; have HO_179000 := n1_; have HO_180003 := n2_; have HO196 := n3_; have HO200 := n4_; have HO204 := n5_; have HO208 := n6_; have HO211 := n7_; have HO214 := n8_; have BK178 := n9_; have BK179 := n10_; have BK191 := n11_; have BK192 := n12_; have BK193 := n13_; have HB := n14_; clear n0_ n1_ n2_ n3_ n4_ n5_ n6_ n7_ n8_ n9_ n10_ n11_ n12_ n13_ n14_; (try clear hb); (try clear ho0); obtain ⟨Ao121, co121, eo121⟩ := Kd.R_slice HO214.out; subst eo121))
      go_ret
      exact ⟨by first | rfl | (simp [errW_none, errW_some] <;> rfl) | (simp only [← hji13]; first | rfl | (simp [errW_none, errW_some] <;> rfl)) | (simp [*, errW_none, errW_some] <;> rfl), by repeat (first | (with_reducible first | exact HB.out | apply below_alloc | apply pw_below_drewN | apply below_drew1 | refine below_set ?_ GE178.out | refine below_set ?_ GE179.out | refine below_set ?_ GE191.out | refine below_set ?_ GE192.out | refine below_set ?_ GE193.out) | exact HB.out)⟩
     ·rw [if_neg c82] at H
      have c82b0 : (t205 == (wrap64 (2 - x17_18))) = false := beq_eq_false_iff_ne.mpr c82
      have c82b1 : (t205 != (wrap64 (2 - x17_18))) = true := bne_iff_ne.mpr c82
      obtain rfl := Option.some.inj H
      have hnb122 := NB178_179.out
      have hnc122 := NB179_178.out
      have hnb123 := NB178_191.out
      have hnc123 := NB191_178.out
      have hnb124 := NB178_192.out
      have hnc124 := NB192_178.out
      have hnb125 := NB178_193.out
      have hnc125 := NB193_178.out
      have hcz126_0 : wc.cell? ⟨gb178, 0, none⟩ = some (.slice (some ad185) t167.length co25) := (blk_cell BK178.out 0).trans rfl
      have hcz126_1 : wc.cell? ⟨gb178, 1, none⟩ = some (.int .i64 t170) := (blk_cell BK178.out 1).trans rfl
      have hfz126_0 := blk_frozen BK178.out 0
      have hfz126_1 := blk_frozen BK178.out 1
      have hnb127 := NB191_179.out
      have hnc127 := NB179_191.out
      have hnb128 := NB191_192.out
      have hnc128 := NB192_191.out
      have hnb129 := NB191_193.out
      have hnc129 := NB193_191.out
      have hcz130_0 : wc.cell? ⟨gb191, 0, none⟩ = some (.string ((rd_T64 t167 (ji13)).f1)) := (blk_cell BK191.out 0).trans rfl
      have hcz130_1 : wc.cell? ⟨gb191, 1, none⟩ = some (.int .i64 (wrap64 (1 + (wrap64 (Int.tmod a2 6))))) := (blk_cell BK191.out 1).trans rfl
      have hcz130_2 : wc.cell? ⟨gb191, 2, none⟩ = some (.int .i64 t187) := (blk_cell BK191.out 2).trans rfl
      have hcz130_3 : wc.cell? ⟨gb191, 3, none⟩ = some (.int .i64 t188) := (blk_cell BK191.out 3).trans rfl
      have hcz130_4 : wc.cell? ⟨gb191, 4, none⟩ = some (.string t189) := (blk_cell BK191.out 4).trans rfl
      have hcz130_5 : wc.cell? ⟨gb191, 5, none⟩ = some (.bool false) := (blk_cell BK191.out 5).trans rfl
      have hcz130_6 : wc.cell? ⟨gb191, 6, none⟩ = some (.bool a3) := (blk_cell BK191.out 6).trans rfl
      have hfz130_0 := blk_frozen BK191.out 0
      have hfz130_1 := blk_frozen BK191.out 1
      have hfz130_2 := blk_frozen BK191.out 2
      have hfz130_3 := blk_frozen BK191.out 3
      have hfz130_4 := blk_frozen BK191.out 4
      have hfz130_5 := blk_frozen BK191.out 5
      have hfz130_6 := blk_frozen BK191.out 6
      go_wp2_with (first | ((with_reducible refine gate_dst (N := 70) rfl ?_); (try (refine gate_guard (by rfl) ?_; dsimp only)); refine Kd.R_lit k28 _ 28 ?hg (N := 70) ?hd (xs := ([(⟨((rd_T64 t167 (ji13)).f1), (wrap64 (1 + (wrap64 (Int.tmod a2 6)))), (⟨t187, t188, t189⟩ : S26), false, a3⟩ : S28)] : List (S28))) (inner := [.string ((rd_T64 t167 (ji13)).f1), .int .i64 (wrap64 (1 + (wrap64 (Int.tmod a2 6)))), .int .i64 t187, .int .i64 t188, .string t189, .bool false, .bool a3]) (ok := fun _ => True) (okp := fun _ => True) ?hr ?hp (fun _ hk => hk) trivial (Below.refl _ _) (Nat.le_refl _) (by simp) ?_; (case hd => rfl); (case hg => rfl); (case hr => first | (go_simp; done) | (go_simp; rfl)); (case hp => exact (Reps.c7 (show Kd.M k28 _ _ _ (⟨((rd_T64 t167 (ji13)).f1), (wrap64 (1 + (wrap64 (Int.tmod a2 6)))), (⟨t187, t188, t189⟩ : S26), false, a3⟩ : S28) [.string ((rd_T64 t167 (ji13)).f1), .int .i64 (wrap64 (1 + (wrap64 (Int.tmod a2 6)))), .int .i64 t187, .int .i64 t188, .string t189, .bool false, .bool a3] from (k28_mkM _ _ _ (⟨((rd_T64 t167 (ji13)).f1), (wrap64 (1 + (wrap64 (Int.tmod a2 6)))), (⟨t187, t188, t189⟩ : S26), false, a3⟩ : S28) )) (Reps.none _ _))); intro v195 w131 ho132 hb hg_ hnew_; clear hg_ hnew_; (first | rw [← Ny194.out] at ho132 | (simp only [Int.reduceToNat] at ho132; rw [← Ny194.out] at ho132)); have n0_ := qR HO_13 hb; have n1_ := qR HO_179000 hb; have n2_ := qR HO_180003 hb; have n3_ := Aside0.mk (Kd.R_lower (Kd.R_newB (Kd.R_newB (Kd.R_newB ho132 (g := gb191) (o := .cells #[.string ((rd_T64 t167 (ji13)).f1), .int .i64 (wrap64 (1 + (wrap64 (Int.tmod a2 6)))), .int .i64 t187, .int .i64 t188, .string t189, .bool false, .bool a3] 28 (0, 0)) (qA BK191)) (g := gb192) (o := .cells #[.string ((rd_T64 t167 (ji13)).f1), .int .i64 7, .int .i64 t187, .int .i64 t188, .string t189, .bool false, .bool a3] 28 (0, 0)) (qA BK192)) (g := gb193) (o := .cells #[.string ((rd_T64 t167 (ji13)).f1), .int .i64 8, .int .i64 t187, .int .i64 t188, .string t189, .bool false, .bool a3] 28 (0, 0)) (qA BK193)) (qZ HB)); have n4_ := qB BK178 hb; have n5_ := qB BK179 hb; have n6_ := qB BK191 hb; have n7_ := qB BK192 hb; have n8_ := qB BK193 hb; have n9_ := qS HB hb; clear HO_13 HO_179000; clear HO_180003 BK178; clear BK179 BK191; clear BK192 BK193 HB; have HO_13 := n0_; have HO_179000 := n1_; have HO_180003 := n2_; have HO196 := n3_; have BK178 := n4_; have BK179 := n5_; have BK191 := n6_; have BK192 := n7_; have BK193 := n8_; have HB := n9_; clear n0_ n1_ n2_ n3_ n4_ n5_ n6_ n7_ n8_ n9_; clear hb ho132; obtain ⟨Ao133, co133, eo133⟩ := Kd.R_slice HO196.out; subst eo133) | ((with_reducible refine gate_callee (f := 17) rfl ?_); refine goesL_ (some 72) rfl rfl Try.func17 (by kernel_rfl) rfl #[.agg #[.slice (some ad185) t167.length co25, .int .i64 t170], .slice Ao133 y194.length co133, .slice (some ⟨go16, 0, none⟩) y184.length co16] rfl (by (try simp only [List.map_toArray, List.map_cons, List.map_nil]); first | done | rfl | (simp only [List.length_drop, List.length_take]; rfl)) ?_; (with_reducible refine (pred_Row.calls kj18 _ _ t167 t170 _ _ y194 _ _ y184 t197 _ ?side1 ?side2 ?side3 ?side4 ?side5 ?side6 A77.out).mono ?_); (case side1 => repeat (first | exact (Kd.R_reads' HO_179000.out).2.2 | (with_reducible refine Kd.C_alloc ?_ _) | (with_reducible refine Kd.C_drewN ?_ _) | (with_reducible refine Kd.C_drew ?_))); (case side2 => exact (Kd.R_reads' HO_179000.out).2.1); (case side3 => repeat (first | exact (Kd.R_reads' HO196.out).2.2 | (with_reducible refine Kd.C_alloc ?_ _) | (with_reducible refine Kd.C_drewN ?_ _) | (with_reducible refine Kd.C_drew ?_))); (case side4 => exact (Kd.R_reads' HO196.out).2.1); (case side5 => repeat (first | exact (Kd.R_reads' HO_13.out).2.2 | (with_reducible refine Kd.C_alloc ?_ _) | (with_reducible refine Kd.C_drewN ?_ _) | (with_reducible refine Kd.C_drew ?_))); (case side6 => exact (Kd.R_reads' HO_13.out).2.1); rintro e w134 ⟨rfl, hb⟩; refine ⟨_, rfl, ?_⟩; have n0_ := qR HO_13 hb; have n1_ := qR HO_179000 hb; have n2_ := qR HO_180003 hb; have n3_ := qR HO196 hb; have n4_ := qB BK178 hb; have n5_ := qB BK179 hb; have n6_ := qB BK191 hb; have n7_ := qB BK192 hb; have n8_ := qB BK193 hb; have n9_ := qS HB hb; clear HO_13 HO_179000; clear HO_180003 HO196; clear BK178 BK179; clear BK191 BK192; clear BK193 HB; have HO_13 := n0_; have HO_179000 := n1_; have HO_180003 := n2_; have HO196 := n3_; have BK178 := n4_; have BK179 := n5_; have BK191 := n6_; have BK192 := n7_; have BK193 := n8_; have HB := n9_; clear n0_ n1_ n2_ n3_ n4_ n5_ n6_ n7_ n8_ n9_; (try clear hb); have hcz135_0 : w134.cell? ⟨gb178, 0, none⟩ = some (.slice (some ad185) t167.length co25) := (blk_cell BK178.out 0).trans rfl; have hcz135_1 : w134.cell? ⟨gb178, 1, none⟩ = some (.int .i64 t170) := (blk_cell BK178.out 1).trans rfl; have hfz135_0 := blk_frozen BK178.out 0; have hfz135_1 := blk_frozen BK178.out 1; have hnb136 := NB192_179.out; have hnc136 := NB179_192.out; have hnb137 := NB192_193.out; have hnc137 := NB193_192.out; have hcz138_0 : w134.cell? ⟨gb192, 0, none⟩ = some (.string ((rd_T64 t167 (ji13)).f1)) := (blk_cell BK192.out 0).trans rfl; have hcz138_1 : w134.cell? ⟨gb192, 1, none⟩ = some (.int .i64 7) := (blk_cell BK192.out 1).trans rfl; have hcz138_2 : w134.cell? ⟨gb192, 2, none⟩ = some (.int .i64 t187) := (blk_cell BK192.out 2).trans rfl; have hcz138_3 : w134.cell? ⟨gb192, 3, none⟩ = some (.int .i64 t188) := (blk_cell BK192.out 3).trans rfl; have hcz138_4 : w134.cell? ⟨gb192, 4, none⟩ = some (.string t189) := (blk_cell BK192.out 4).trans rfl; have hcz138_5 : w134.cell? ⟨gb192, 5, none⟩ = some (.bool false) := (blk_cell BK192.out 5).trans rfl; have hcz138_6 : w134.cell? ⟨gb192, 6, none⟩ = some (.bool a3) := (blk_cell BK192.out 6).trans rfl; have hfz138_0 := blk_frozen BK192.out 0; have hfz138_1 := blk_frozen BK192.out 1; have hfz138_2 := blk_frozen BK192.out 2; have hfz138_3 := blk_frozen BK192.out 3; have hfz138_4 := blk_frozen BK192.out 4; have hfz138_5 := blk_frozen BK192.out 5; have hfz138_6 := blk_frozen BK192.out 6) | ((with_reducible refine gate_dst (N := 77) rfl ?_); (try (refine gate_guard (by rfl) ?_; dsimp only)); refine Kd.R_lit k28 _ 28 ?hg (N := 77) ?hd (xs := ([(⟨((rd_T64 t167 (ji13)).f1), 7, (⟨t187, t188, t189⟩ : S26), false, a3⟩ : S28)] : List (S28))) (inner := [.string ((rd_T64 t167 (ji13)).f1), .int .i64 7, .int .i64 t187, .int .i64 t188, .string t189, .bool false, .bool a3]) (ok := fun _ => True) (okp := fun _ => True) ?hr ?hp (fun _ hk => hk) trivial (Below.refl _ _) (Nat.le_refl _) (by simp) ?_; (case hd => rfl); (case hg => rfl); (case hr => first | (go_simp; done) | (go_simp; rfl)); (case hp => exact (Reps.c7 (show Kd.M k28 _ _ _ (⟨((rd_T64 t167 (ji13)).f1), 7, (⟨t187, t188, t189⟩ : S26), false, a3⟩ : S28) [.string ((rd_T64 t167 (ji13)).f1), .int .i64 7, .int .i64 t187, .int .i64 t188, .string t189, .bool false, .bool a3] from (k28_mkM _ _ _ (⟨((rd_T64 t167 (ji13)).f1), 7, (⟨t187, t188, t189⟩ : S26), false, a3⟩ : S28) )) (Reps.none _ _))); intro v199 w139 ho140 hb hg_ hnew_; clear hg_ hnew_; (first | rw [← Ny198.out] at ho140 | (simp only [Int.reduceToNat] at ho140; rw [← Ny198.out] at ho140)); have n0_ := qR HO_13 hb; have n1_ := qR HO_179000 hb; have n2_ := qR HO_180003 hb; have n3_ := Aside0.mk (Kd.R_elder' (by (with_reducible repeat (first | apply Kd.R_alloc | apply Kd.R_drewN | apply Kd.R_drew)); exact HO196.out) (Kd.R_base ho140) hb); have n4_ := Aside0.mk (Kd.R_lower (Kd.R_newB (Kd.R_newB (Kd.R_newB (Kd.R_new' ho140 (Kd.R_lt (by (with_reducible repeat (first | apply Kd.R_alloc | apply Kd.R_drewN | apply Kd.R_drew)); exact HO196.out))) (g := gb191) (o := .cells #[.string ((rd_T64 t167 (ji13)).f1), .int .i64 (wrap64 (1 + (wrap64 (Int.tmod a2 6)))), .int .i64 t187, .int .i64 t188, .string t189, .bool false, .bool a3] 28 (0, 0)) (qA BK191)) (g := gb192) (o := .cells #[.string ((rd_T64 t167 (ji13)).f1), .int .i64 7, .int .i64 t187, .int .i64 t188, .string t189, .bool false, .bool a3] 28 (0, 0)) (qA BK192)) (g := gb193) (o := .cells #[.string ((rd_T64 t167 (ji13)).f1), .int .i64 8, .int .i64 t187, .int .i64 t188, .string t189, .bool false, .bool a3] 28 (0, 0)) (qA BK193)) (qZ HB)); have n5_ := qB BK178 hb; have n6_ := qB BK179 hb; have n7_ := qB BK191 hb; have n8_ := qB BK192 hb; have n9_ := qB BK193 hb; have n10_ := qS HB hb; clear HO_13 HO_179000; clear HO_180003 HO196; clear BK178 BK179; clear BK191 BK192; clear BK193 HB; have HO_13 := n0_; have HO_179000 := n1_; have HO_180003 := n2_; have HO196 := n3_; have HO200 := n4_; have BK178 := n5_; have BK179 := n6_; have BK191 := n7_; have BK192 := n8_; have BK193 := n9_; have HB := n10_; clear n0_ n1_ n2_ n3_ n4_ n5_ n6_ n7_ n8_ n9_ n10_; clear hb ho140; obtain ⟨Ao141, co141, eo141⟩ := Kd.R_slice HO200.out; subst eo141) | (go_at_call 17; (with_reducible refine (pred_Row.calls kj18 _ _ t167 t170 _ _ y198 _ _ y184 t201 _ ?side1 ?side2 ?side3 ?side4 ?side5 ?side6 A79.out).mono ?_); (case side1 => repeat (first | exact (Kd.R_reads' HO_179000.out).2.2 | (with_reducible refine Kd.C_alloc ?_ _) | (with_reducible refine Kd.C_drewN ?_ _) | (with_reducible refine Kd.C_drew ?_))); (case side2 => exact (Kd.R_reads' HO_179000.out).2.1); (case side3 => repeat (first | exact (Kd.R_reads' HO200.out).2.2 | (with_reducible refine Kd.C_alloc ?_ _) | (with_reducible refine Kd.C_drewN ?_ _) | (with_reducible refine Kd.C_drew ?_))); (case side4 => exact (Kd.R_reads' HO200.out).2.1); (case side5 => repeat (first | exact (Kd.R_reads' HO_13.out).2.2 | (with_reducible refine Kd.C_alloc ?_ _) | (with_reducible refine Kd.C_drewN ?_ _) | (with_reducible refine Kd.C_drew ?_))); (case side6 => exact (Kd.R_reads' HO_13.out).2.1); rintro e w142 ⟨rfl, hb⟩; have n0_ := qR HO_13 hb; have n1_ := qR HO_179000 hb; have n2_ := qR HO_180003 hb; have n3_ := qR HO196 hb; have n4_ := qR HO200 hb; have n5_ := qB BK178 hb; have n6_ := qB BK179 hb; have n7_ := qB BK191 hb; have n8_ := qB BK192 hb; have n9_ := qB BK193 hb; have n10_ := qS HB hb; clear HO_13 HO_179000; clear HO_180003 HO196; clear HO200 BK178; clear BK179 BK191; clear BK192 BK193 HB; have HO_13 := n0_; have HO_179000 := n1_; have HO_180003 := n2_; have HO196 := n3_; have HO200 := n4_; have BK178 := n5_; have BK179 := n6_; have BK191 := n7_; have BK192 := n8_; have BK193 := n9_; have HB := n10_; clear n0_ n1_ n2_ n3_ n4_ n5_ n6_ n7_ n8_ n9_ n10_; (try clear hb); have hcz143_0 : w142.cell? ⟨gb178, 0, none⟩ = some (.slice (some ad185) t167.length co25) := (blk_cell BK178.out 0).trans rfl; have hcz143_1 : w142.cell? ⟨gb178, 1, none⟩ = some (.int .i64 t170) := (blk_cell BK178.out 1).trans rfl; have hfz143_0 := blk_frozen BK178.out 0; have hfz143_1 := blk_frozen BK178.out 1; have hnb144 := NB193_179.out; have hnc144 := NB179_193.out; have hcz145_0 : w142.cell? ⟨gb193, 0, none⟩ = some (.string ((rd_T64 t167 (ji13)).f1)) := (blk_cell BK193.out 0).trans rfl; have hcz145_1 : w142.cell? ⟨gb193, 1, none⟩ = some (.int .i64 8) := (blk_cell BK193.out 1).trans rfl; have hcz145_2 : w142.cell? ⟨gb193, 2, none⟩ = some (.int .i64 t187) := (blk_cell BK193.out 2).trans rfl; have hcz145_3 : w142.cell? ⟨gb193, 3, none⟩ = some (.int .i64 t188) := (blk_cell BK193.out 3).trans rfl; have hcz145_4 : w142.cell? ⟨gb193, 4, none⟩ = some (.string t189) := (blk_cell BK193.out 4).trans rfl; have hcz145_5 : w142.cell? ⟨gb193, 5, none⟩ = some (.bool false) := (blk_cell BK193.out 5).trans rfl; have hcz145_6 : w142.cell? ⟨gb193, 6, none⟩ = some (.bool a3) := (blk_cell BK193.out 6).trans rfl; have hfz145_0 := blk_frozen BK193.out 0; have hfz145_1 := blk_frozen BK193.out 1; have hfz145_2 := blk_frozen BK193.out 2; have hfz145_3 := blk_frozen BK193.out 3; have hfz145_4 := blk_frozen BK193.out 4; have hfz145_5 := blk_frozen BK193.out 5; have hfz145_6 := blk_frozen BK193.out 6) | ((with_reducible refine gate_dst (N := 86) rfl ?_); (try (refine gate_guard (by rfl) ?_; dsimp only)); refine Kd.R_lit k28 _ 28 ?hg (N := 86) ?hd (xs := ([(⟨((rd_T64 t167 (ji13)).f1), 8, (⟨t187, t188, t189⟩ : S26), false, a3⟩ : S28)] : List (S28))) (inner := [.string ((rd_T64 t167 (ji13)).f1), .int .i64 8, .int .i64 t187, .int .i64 t188, .string t189, .bool false, .bool a3]) (ok := fun _ => True) (okp := fun _ => True) ?hr ?hp (fun _ hk => hk) trivial (Below.refl _ _) (Nat.le_refl _) (by simp) ?_; (case hd => rfl); (case hg => rfl); (case hr => first | (go_simp; done) | (go_simp; rfl)); (case hp => exact (Reps.c7 (show Kd.M k28 _ _ _ (⟨((rd_T64 t167 (ji13)).f1), 8, (⟨t187, t188, t189⟩ : S26), false, a3⟩ : S28) [.string ((rd_T64 t167 (ji13)).f1), .int .i64 8, .int .i64 t187, .int .i64 t188, .string t189, .bool false, .bool a3] from (k28_mkM _ _ _ (⟨((rd_T64 t167 (ji13)).f1), 8, (⟨t187, t188, t189⟩ : S26), false, a3⟩ : S28) )) (Reps.none _ _))); intro v203 w146 ho147 hb hg_ hnew_; clear hg_ hnew_; (first | rw [← Ny202.out] at ho147 | (simp only [Int.reduceToNat] at ho147; rw [← Ny202.out] at ho147)); have n0_ := qR HO_13 hb; have n1_ := qR HO_179000 hb; have n2_ := qR HO_180003 hb; have n3_ := Aside0.mk (Kd.R_elder' (by (with_reducible repeat (first | apply Kd.R_alloc | apply Kd.R_drewN | apply Kd.R_drew)); exact HO196.out) (Kd.R_base ho147) hb); have n4_ := Aside0.mk (Kd.R_elder' (by (with_reducible repeat (first | apply Kd.R_alloc | apply Kd.R_drewN | apply Kd.R_drew)); exact HO200.out) (Kd.R_base ho147) hb); have n5_ := Aside0.mk (Kd.R_lower (Kd.R_newB (Kd.R_newB (Kd.R_newB (Kd.R_new' (Kd.R_new' ho147 (Kd.R_lt (by (with_reducible repeat (first | apply Kd.R_alloc | apply Kd.R_drewN | apply Kd.R_drew)); exact HO196.out))) (Kd.R_lt (by (with_reducible repeat (first | apply Kd.R_alloc | apply Kd.R_drewN | apply Kd.R_drew)); exact HO200.out))) (g := gb191) (o := .cells #[.string ((rd_T64 t167 (ji13)).f1), .int .i64 (wrap64 (1 + (wrap64 (Int.tmod a2 6)))), .int .i64 t187, .int .i64 t188, .string t189, .bool false, .bool a3] 28 (0, 0)) (qA BK191)) (g := gb192) (o := .cells #[.string ((rd_T64 t167 (ji13)).f1), .int .i64 7, .int .i64 t187, .int .i64 t188, .string t189, .bool false, .bool a3] 28 (0, 0)) (qA BK192)) (g := gb193) (o := .cells #[.string ((rd_T64 t167 (ji13)).f1), .int .i64 8, .int .i64 t187, .int .i64 t188, .string t189, .bool false, .bool a3] 28 (0, 0)) (qA BK193)) (qZ HB)); have n6_ := qB BK178 hb; have n7_ := qB BK179 hb; have n8_ := qB BK191 hb; have n9_ := qB BK192 hb; have n10_ := qB BK193 hb; have n11_ := qS HB hb; clear HO_13 HO_179000; clear HO_180003 HO196; clear HO200 BK178; clear BK179 BK191; clear BK192 BK193 HB; have HO_13 := n0_; have HO_179000 := n1_; have HO_180003 := n2_; have HO196 := n3_; have HO200 := n4_; have HO204 := n5_; have BK178 := n6_; have BK179 := n7_; have BK191 := n8_; have BK192 := n9_; have BK193 := n10_; have HB := n11_; clear n0_ n1_ n2_ n3_ n4_ n5_ n6_ n7_ n8_ n9_ n10_ n11_; clear hb ho147; obtain ⟨Ao148, co148, eo148⟩ := Kd.R_slice HO204.out; subst eo148) | (go_at_call 17; (with_reducible refine (pred_Row.calls kj18 _ _ t167 t170 _ _ y202 _ _ y184 t205 _ ?side1 ?side2 ?side3 ?side4 ?side5 ?side6 A81.out).mono ?_); (case side1 => repeat (first | exact (Kd.R_reads' HO_179000.out).2.2 | (with_reducible refine Kd.C_alloc ?_ _) | (with_reducible refine Kd.C_drewN ?_ _) | (with_reducible refine Kd.C_drew ?_))); (case side2 => exact (Kd.R_reads' HO_179000.out).2.1); (case side3 => repeat (first | exact (Kd.R_reads' HO204.out).2.2 | (with_reducible refine Kd.C_alloc ?_ _) | (with_reducible refine Kd.C_drewN ?_ _) | (with_reducible refine Kd.C_drew ?_))); (case side4 => exact (Kd.R_reads' HO204.out).2.1); (case side5 => repeat (first | exact (Kd.R_reads' HO_13.out).2.2 | (with_reducible refine Kd.C_alloc ?_ _) | (with_reducible refine Kd.C_drewN ?_ _) | (with_reducible refine Kd.C_drew ?_))); (case side6 => exact (Kd.R_reads' HO_13.out).2.1); rintro e w149 ⟨rfl, hb⟩; have n0_ := qR HO_13 hb; have n1_ := qR HO_179000 hb; have n2_ := qR HO_180003 hb; have n3_ := qR HO196 hb; have n4_ := qR HO200 hb; have n5_ := qR HO204 hb; have n6_ := qB BK178 hb; have n7_ := qB BK179 hb; have n8_ := qB BK191 hb; have n9_ := qB BK192 hb; have n10_ := qB BK193 hb; have n11_ := qS HB hb; clear HO_13 HO_179000; clear HO_180003 HO196; clear HO200 HO204; clear BK178 BK179; clear BK191 BK192; clear BK193 HB; have HO_13 := n0_; have HO_179000 := n1_; have HO_180003 := n2_; have HO196 := n3_; have HO200 := n4_; have HO204 := n5_; have BK178 := n6_; have BK179 := n7_; have BK191 := n8_; have BK192 := n9_; have BK193 := n10_; have HB := n11_; clear n0_ n1_ n2_ n3_ n4_ n5_ n6_ n7_ n8_ n9_ n10_ n11_; (try clear hb)))
      go_ret
      exact ⟨by first | rfl | (simp [errW_none, errW_some] <;> rfl) | (simp only [← hji13]; first | rfl | (simp [errW_none, errW_some] <;> rfl)) | (simp [*, errW_none, errW_some] <;> rfl), by repeat (first | (with_reducible first | exact HB.out | apply below_alloc | apply pw_below_drewN | apply below_drew1 | refine below_set ?_ GE178.out | refine below_set ?_ GE179.out | refine below_set ?_ GE191.out | refine below_set ?_ GE192.out | refine below_set ?_ GE193.out) | exact HB.out)⟩
    ·rw [if_neg c80] at H
     have c80b0 : (t201 == x17_18) = false := beq_eq_false_iff_ne.mpr c80
     have c80b1 : (t201 != x17_18) = true := bne_iff_ne.mpr c80
     obtain rfl := Option.some.inj H
     have hnb150 := NB178_179.out
     have hnc150 := NB179_178.out
     have hnb151 := NB178_191.out
     have hnc151 := NB191_178.out
     have hnb152 := NB178_192.out
     have hnc152 := NB192_178.out
     have hnb153 := NB178_193.out
     have hnc153 := NB193_178.out
     have hcz154_0 : wc.cell? ⟨gb178, 0, none⟩ = some (.slice (some ad185) t167.length co25) := (blk_cell BK178.out 0).trans rfl
     have hcz154_1 : wc.cell? ⟨gb178, 1, none⟩ = some (.int .i64 t170) := (blk_cell BK178.out 1).trans rfl
     have hfz154_0 := blk_frozen BK178.out 0
     have hfz154_1 := blk_frozen BK178.out 1
     have hnb155 := NB191_179.out
     have hnc155 := NB179_191.out
     have hnb156 := NB191_192.out
     have hnc156 := NB192_191.out
     have hnb157 := NB191_193.out
     have hnc157 := NB193_191.out
     have hcz158_0 : wc.cell? ⟨gb191, 0, none⟩ = some (.string ((rd_T64 t167 (ji13)).f1)) := (blk_cell BK191.out 0).trans rfl
     have hcz158_1 : wc.cell? ⟨gb191, 1, none⟩ = some (.int .i64 (wrap64 (1 + (wrap64 (Int.tmod a2 6))))) := (blk_cell BK191.out 1).trans rfl
     have hcz158_2 : wc.cell? ⟨gb191, 2, none⟩ = some (.int .i64 t187) := (blk_cell BK191.out 2).trans rfl
     have hcz158_3 : wc.cell? ⟨gb191, 3, none⟩ = some (.int .i64 t188) := (blk_cell BK191.out 3).trans rfl
     have hcz158_4 : wc.cell? ⟨gb191, 4, none⟩ = some (.string t189) := (blk_cell BK191.out 4).trans rfl
     have hcz158_5 : wc.cell? ⟨gb191, 5, none⟩ = some (.bool false) := (blk_cell BK191.out 5).trans rfl
     have hcz158_6 : wc.cell? ⟨gb191, 6, none⟩ = some (.bool a3) := (blk_cell BK191.out 6).trans rfl
     have hfz158_0 := blk_frozen BK191.out 0
     have hfz158_1 := blk_frozen BK191.out 1
     have hfz158_2 := blk_frozen BK191.out 2
     have hfz158_3 := blk_frozen BK191.out 3
     have hfz158_4 := blk_frozen BK191.out 4
     have hfz158_5 := blk_frozen BK191.out 5
     have hfz158_6 := blk_frozen BK191.out 6
     go_wp2_with (first | ((with_reducible refine gate_dst (N := 70) rfl ?_); (try (refine gate_guard (by rfl) ?_; dsimp only)); refine Kd.R_lit k28 _ 28 ?hg (N := 70) ?hd (xs := ([(⟨((rd_T64 t167 (ji13)).f1), (wrap64 (1 + (wrap64 (Int.tmod a2 6)))), (⟨t187, t188, t189⟩ : S26), false, a3⟩ : S28)] : List (S28))) (inner := [.string ((rd_T64 t167 (ji13)).f1), .int .i64 (wrap64 (1 + (wrap64 (Int.tmod a2 6)))), .int .i64 t187, .int .i64 t188, .string t189, .bool false, .bool a3]) (ok := fun _ => True) (okp := fun _ => True) ?hr ?hp (fun _ hk => hk) trivial (Below.refl _ _) (Nat.le_refl _) (by simp) ?_; (case hd => rfl); (case hg => rfl); (case hr => first | (go_simp; done) | (go_simp; rfl)); (case hp => exact (Reps.c7 (show Kd.M k28 _ _ _ (⟨((rd_T64 t167 (ji13)).f1), (wrap64 (1 + (wrap64 (Int.tmod a2 6)))), (⟨t187, t188, t189⟩ : S26), false, a3⟩ : S28) [.string ((rd_T64 t167 (ji13)).f1), .int .i64 (wrap64 (1 + (wrap64 (Int.tmod a2 6)))), .int .i64 t187, .int .i64 t188, .string t189, .bool false, .bool a3] from (k28_mkM _ _ _ (⟨((rd_T64 t167 (ji13)).f1), (wrap64 (1 + (wrap64 (Int.tmod a2 6)))), (⟨t187, t188, t189⟩ : S26), false, a3⟩ : S28) )) (Reps.none _ _))); intro v195 w159 ho160 hb hg_ hnew_; clear hg_ hnew_; (first | rw [← Ny194.out] at ho160 | (simp only [Int.reduceToNat] at ho160; rw [← Ny194.out] at ho160)); have n0_ := qR HO_13 hb; have n1_ := qR HO_179000 hb; have n2_ := qR HO_180003 hb; have n3_ := Aside0.mk (Kd.R_lower (Kd.R_newB (Kd.R_newB (Kd.R_newB ho160 (g := gb191) (o := .cells #[.string ((rd_T64 t167 (ji13)).f1), .int .i64 (wrap64 (1 + (wrap64 (Int.tmod a2 6)))), .int .i64 t187, .int .i64 t188, .string t189, .bool false, .bool a3] 28 (0, 0)) (qA BK191)) (g := gb192) (o := .cells #[.string ((rd_T64 t167 (ji13)).f1), .int .i64 7, .int .i64 t187, .int .i64 t188, .string t189, .bool false, .bool a3] 28 (0, 0)) (qA BK192)) (g := gb193) (o := .cells #[.string ((rd_T64 t167 (ji13)).f1), .int .i64 8, .int .i64 t187, .int .i64 t188, .string t189, .bool false, .bool a3] 28 (0, 0)) (qA BK193)) (qZ HB)); have n4_ := qB BK178 hb; have n5_ := qB BK179 hb; have n6_ := qB BK191 hb; have n7_ := qB BK192 hb; have n8_ := qB BK193 hb; have n9_ := qS HB hb; clear HO_13 HO_179000; clear HO_180003 BK178; clear BK179 BK191; clear BK192 BK193 HB; have HO_13 := n0_; have HO_179000 := n1_; have HO_180003 := n2_; have HO196 := n3_; have BK178 := n4_; have BK179 := n5_; have BK191 := n6_; have BK192 := n7_; have BK193 := n8_; have HB := n9_; clear n0_ n1_ n2_ n3_ n4_ n5_ n6_ n7_ n8_ n9_; clear hb ho160; obtain ⟨Ao161, co161, eo161⟩ := Kd.R_slice HO196.out; subst eo161) | ((with_reducible refine gate_callee (f := 17) rfl ?_); refine goesL_ (some 72) rfl rfl Try.func17 (by kernel_rfl) rfl #[.agg #[.slice (some ad185) t167.length co25, .int .i64 t170], .slice Ao161 y194.length co161, .slice (some ⟨go16, 0, none⟩) y184.length co16] rfl (by (try simp only [List.map_toArray, List.map_cons, List.map_nil]); first | done | rfl | (simp only [List.length_drop, List.length_take]; rfl)) ?_; (with_reducible refine (pred_Row.calls kj18 _ _ t167 t170 _ _ y194 _ _ y184 t197 _ ?side1 ?side2 ?side3 ?side4 ?side5 ?side6 A77.out).mono ?_); (case side1 => repeat (first | exact (Kd.R_reads' HO_179000.out).2.2 | (with_reducible refine Kd.C_alloc ?_ _) | (with_reducible refine Kd.C_drewN ?_ _) | (with_reducible refine Kd.C_drew ?_))); (case side2 => exact (Kd.R_reads' HO_179000.out).2.1); (case side3 => repeat (first | exact (Kd.R_reads' HO196.out).2.2 | (with_reducible refine Kd.C_alloc ?_ _) | (with_reducible refine Kd.C_drewN ?_ _) | (with_reducible refine Kd.C_drew ?_))); (case side4 => exact (Kd.R_reads' HO196.out).2.1); (case side5 => repeat (first | exact (Kd.R_reads' HO_13.out).2.2 | (with_reducible refine Kd.C_alloc ?_ _) | (with_reducible refine Kd.C_drewN ?_ _) | (with_reducible refine Kd.C_drew ?_))); (case side6 => exact (Kd.R_reads' HO_13.out).2.1); rintro e w162 ⟨rfl, hb⟩; refine ⟨_, rfl, ?_⟩; have n0_ := qR HO_13 hb; have n1_ := qR HO_179000 hb; have n2_ := qR HO_180003 hb; have n3_ := qR HO196 hb; have n4_ := qB BK178 hb; have n5_ := qB BK179 hb; have n6_ := qB BK191 hb; have n7_ := qB BK192 hb; have n8_ := qB BK193 hb; have n9_ := qS HB hb; clear HO_13 HO_179000; clear HO_180003 HO196; clear BK178 BK179; clear BK191 BK192; clear BK193 HB; have HO_13 := n0_; have HO_179000 := n1_; have HO_180003 := n2_; have HO196 := n3_; have BK178 := n4_; have BK179 := n5_; have BK191 := n6_; have BK192 := n7_; have BK193 := n8_; have HB := n9_; clear n0_ n1_ n2_ n3_ n4_ n5_ n6_ n7_ n8_ n9_; (try clear hb); have hcz163_0 : w162.cell? ⟨gb178, 0, none⟩ = some (.slice (some ad185) t167.length co25) := (blk_cell BK178.out 0).trans rfl; have hcz163_1 : w162.cell? ⟨gb178, 1, none⟩ = some (.int .i64 t170) := (blk_cell BK178.out 1).trans rfl; have hfz163_0 := blk_frozen BK178.out 0; have hfz163_1 := blk_frozen BK178.out 1; have hnb164 := NB192_179.out; have hnc164 := NB179_192.out; have hnb165 := NB192_193.out; have hnc165 := NB193_192.out; have hcz166_0 : w162.cell? ⟨gb192, 0, none⟩ = some (.string ((rd_T64 t167 (ji13)).f1)) := (blk_cell BK192.out 0).trans rfl; have hcz166_1 : w162.cell? ⟨gb192, 1, none⟩ = some (.int .i64 7) := (blk_cell BK192.out 1).trans rfl; have hcz166_2 : w162.cell? ⟨gb192, 2, none⟩ = some (.int .i64 t187) := (blk_cell BK192.out 2).trans rfl; have hcz166_3 : w162.cell? ⟨gb192, 3, none⟩ = some (.int .i64 t188) := (blk_cell BK192.out 3).trans rfl; have hcz166_4 : w162.cell? ⟨gb192, 4, none⟩ = some (.string t189) := (blk_cell BK192.out 4).trans rfl; have hcz166_5 : w162.cell? ⟨gb192, 5, none⟩ = some (.bool false) := (blk_cell BK192.out 5).trans rfl; have hcz166_6 : w162.cell? ⟨gb192, 6, none⟩ = some (.bool a3) := (blk_cell BK192.out 6).trans rfl; have hfz166_0 := blk_frozen BK192.out 0; have hfz166_1 := blk_frozen BK192.out 1; have hfz166_2 := blk_frozen BK192.out 2; have hfz166_3 := blk_frozen BK192.out 3; have hfz166_4 := blk_frozen BK192.out 4; have hfz166_5 := blk_frozen BK192.out 5; have hfz166_6 := blk_frozen BK192.out 6) | ((with_reducible refine gate_dst (N := 77) rfl ?_); (try (refine gate_guard (by rfl) ?_; dsimp only)); refine Kd.R_lit k28 _ 28 ?hg (N := 77) ?hd (xs := ([(⟨((rd_T64 t167 (ji13)).f1), 7, (⟨t187, t188, t189⟩ : S26), false, a3⟩ : S28)] : List (S28))) (inner := [.string ((rd_T64 t167 (ji13)).f1), .int .i64 7, .int .i64 t187, .int .i64 t188, .string t189, .bool false, .bool a3]) (ok := fun _ => True) (okp := fun _ => True) ?hr ?hp (fun _ hk => hk) trivial (Below.refl _ _) (Nat.le_refl _) (by simp) ?_; (case hd => rfl); (case hg => rfl); (case hr => first | (go_simp; done) | (go_simp; rfl)); (case hp => exact (Reps.c7 (show Kd.M k28 _ _ _ (⟨((rd_T64 t167 (ji13)).f1), 7, (⟨t187, t188, t189⟩ : S26), false, a3⟩ : S28) [.string ((rd_T64 t167 (ji13)).f1), .int .i64 7, .int .i64 t187, .int .i64 t188, .string t189, .bool false, .bool a3] from (k28_mkM _ _ _ (⟨((rd_T64 t167 (ji13)).f1), 7, (⟨t187, t188, t189⟩ : S26), false, a3⟩ : S28) )) (Reps.none _ _))); intro v199 w167 ho168 hb hg_ hnew_; clear hg_ hnew_; (first | rw [← Ny198.out] at ho168 | (simp only [Int.reduceToNat] at ho168; rw [← Ny198.out] at ho168)); have n0_ := qR HO_13 hb; have n1_ := qR HO_179000 hb; have n2_ := qR HO_180003 hb; have n3_ := Aside0.mk (Kd.R_elder' (by (with_reducible repeat (first | apply Kd.R_alloc | apply Kd.R_drewN | apply Kd.R_drew)); exact HO196.out) (Kd.R_base ho168) hb); have n4_ := Aside0.mk (Kd.R_lower (Kd.R_newB (Kd.R_newB (Kd.R_newB (Kd.R_new' ho168 (Kd.R_lt (by (with_reducible repeat (first | apply Kd.R_alloc | apply Kd.R_drewN | apply Kd.R_drew)); exact HO196.out))) (g := gb191) (o := .cells #[.string ((rd_T64 t167 (ji13)).f1), .int .i64 (wrap64 (1 + (wrap64 (Int.tmod a2 6)))), .int .i64 t187, .int .i64 t188, .string t189, .bool false, .bool a3] 28 (0, 0)) (qA BK191)) (g := gb192) (o := .cells #[.string ((rd_T64 t167 (ji13)).f1), .int .i64 7, .int .i64 t187, .int .i64 t188, .string t189, .bool false, .bool a3] 28 (0, 0)) (qA BK192)) (g := gb193) (o := .cells #[.string ((rd_T64 t167 (ji13)).f1), .int .i64 8, .int .i64 t187, .int .i64 t188, .string t189, .bool false, .bool a3] 28 (0, 0)) (qA BK193)) (qZ HB)); have n5_ := qB BK178 hb; have n6_ := qB BK179 hb; have n7_ := qB BK191 hb; have n8_ := qB BK192 hb; have n9_ := qB BK193 hb; have n10_ := qS HB hb; clear HO_13 HO_179000; clear HO_180003 HO196; clear BK178 BK179; clear BK191 BK192; clear BK193 HB; have HO_13 := n0_; have HO_179000 := n1_; have HO_180003 := n2_; have HO196 := n3_; have HO200 := n4_; have BK178 := n5_; have BK179 := n6_; have BK191 := n7_; have BK192 := n8_; have BK193 := n9_; have HB := n10_; clear n0_ n1_ n2_ n3_ n4_ n5_ n6_ n7_ n8_ n9_ n10_; clear hb ho168; obtain ⟨Ao169, co169, eo169⟩ := Kd.R_slice HO200.out; subst eo169) | (go_at_call 17; (with_reducible refine (pred_Row.calls kj18 _ _ t167 t170 _ _ y198 _ _ y184 t201 _ ?side1 ?side2 ?side3 ?side4 ?side5 ?side6 A79.out).mono ?_); (case side1 => repeat (first | exact (Kd.R_reads' HO_179000.out).2.2 | (with_reducible refine Kd.C_alloc ?_ _) | (with_reducible refine Kd.C_drewN ?_ _) | (with_reducible refine Kd.C_drew ?_))); (case side2 => exact (Kd.R_reads' HO_179000.out).2.1); (case side3 => repeat (first | exact (Kd.R_reads' HO200.out).2.2 | (with_reducible refine Kd.C_alloc ?_ _) | (with_reducible refine Kd.C_drewN ?_ _) | (with_reducible refine Kd.C_drew ?_))); (case side4 => exact (Kd.R_reads' HO200.out).2.1); (case side5 => repeat (first | exact (Kd.R_reads' HO_13.out).2.2 | (with_reducible refine Kd.C_alloc ?_ _) | (with_reducible refine Kd.C_drewN ?_ _) | (with_reducible refine Kd.C_drew ?_))); (case side6 => exact (Kd.R_reads' HO_13.out).2.1); rintro e w170 ⟨rfl, hb⟩; have n0_ := qR HO_13 hb; have n1_ := qR HO_179000 hb; have n2_ := qR HO_180003 hb; have n3_ := qR HO196 hb; have n4_ := qR HO200 hb; have n5_ := qB BK178 hb; have n6_ := qB BK179 hb; have n7_ := qB BK191 hb; have n8_ := qB BK192 hb; have n9_ := qB BK193 hb; have n10_ := qS HB hb; clear HO_13 HO_179000; clear HO_180003 HO196; clear HO200 BK178; clear BK179 BK191; clear BK192 BK193 HB; have HO_13 := n0_; have HO_179000 := n1_; have HO_180003 := n2_; have HO196 := n3_; have HO200 := n4_; have BK178 := n5_; have BK179 := n6_; have BK191 := n7_; have BK192 := n8_; have BK193 := n9_; have HB := n10_; clear n0_ n1_ n2_ n3_ n4_ n5_ n6_ n7_ n8_ n9_ n10_; (try clear hb)))
     go_ret
     exact ⟨by first | rfl | (simp [errW_none, errW_some] <;> rfl) | (simp only [← hji13]; first | rfl | (simp [errW_none, errW_some] <;> rfl)) | (simp [*, errW_none, errW_some] <;> rfl), by repeat (first | (with_reducible first | exact HB.out | apply below_alloc | apply pw_below_drewN | apply below_drew1 | refine below_set ?_ GE178.out | refine below_set ?_ GE179.out | refine below_set ?_ GE191.out | refine below_set ?_ GE192.out | refine below_set ?_ GE193.out) | exact HB.out)⟩
   ·rw [if_neg c78] at H
    have c78b0 : (t197 == 1) = false := beq_eq_false_iff_ne.mpr c78
    have c78b1 : (t197 != 1) = true := bne_iff_ne.mpr c78
    obtain rfl := Option.some.inj H
    have hnb171 := NB178_179.out
    have hnc171 := NB179_178.out
    have hnb172 := NB178_191.out
    have hnc172 := NB191_178.out
    have hnb173 := NB178_192.out
    have hnc173 := NB192_178.out
    have hnb174 := NB178_193.out
    have hnc174 := NB193_178.out
    have hcz175_0 : wc.cell? ⟨gb178, 0, none⟩ = some (.slice (some ad185) t167.length co25) := (blk_cell BK178.out 0).trans rfl
    have hcz175_1 : wc.cell? ⟨gb178, 1, none⟩ = some (.int .i64 t170) := (blk_cell BK178.out 1).trans rfl
    have hfz175_0 := blk_frozen BK178.out 0
    have hfz175_1 := blk_frozen BK178.out 1
    have hnb176 := NB191_179.out
    have hnc176 := NB179_191.out
    have hnb177 := NB191_192.out
    have hnc177 := NB192_191.out
    have hnb178 := NB191_193.out
    have hnc178 := NB193_191.out
    have hcz179_0 : wc.cell? ⟨gb191, 0, none⟩ = some (.string ((rd_T64 t167 (ji13)).f1)) := (blk_cell BK191.out 0).trans rfl
    have hcz179_1 : wc.cell? ⟨gb191, 1, none⟩ = some (.int .i64 (wrap64 (1 + (wrap64 (Int.tmod a2 6))))) := (blk_cell BK191.out 1).trans rfl
    have hcz179_2 : wc.cell? ⟨gb191, 2, none⟩ = some (.int .i64 t187) := (blk_cell BK191.out 2).trans rfl
    have hcz179_3 : wc.cell? ⟨gb191, 3, none⟩ = some (.int .i64 t188) := (blk_cell BK191.out 3).trans rfl
    have hcz179_4 : wc.cell? ⟨gb191, 4, none⟩ = some (.string t189) := (blk_cell BK191.out 4).trans rfl
    have hcz179_5 : wc.cell? ⟨gb191, 5, none⟩ = some (.bool false) := (blk_cell BK191.out 5).trans rfl
    have hcz179_6 : wc.cell? ⟨gb191, 6, none⟩ = some (.bool a3) := (blk_cell BK191.out 6).trans rfl
    have hfz179_0 := blk_frozen BK191.out 0
    have hfz179_1 := blk_frozen BK191.out 1
    have hfz179_2 := blk_frozen BK191.out 2
    have hfz179_3 := blk_frozen BK191.out 3
    have hfz179_4 := blk_frozen BK191.out 4
    have hfz179_5 := blk_frozen BK191.out 5
    have hfz179_6 := blk_frozen BK191.out 6
    go_wp2_with (first | ((with_reducible refine gate_dst (N := 70) rfl ?_); (try (refine gate_guard (by rfl) ?_; dsimp only)); refine Kd.R_lit k28 _ 28 ?hg (N := 70) ?hd (xs := ([(⟨((rd_T64 t167 (ji13)).f1), (wrap64 (1 + (wrap64 (Int.tmod a2 6)))), (⟨t187, t188, t189⟩ : S26), false, a3⟩ : S28)] : List (S28))) (inner := [.string ((rd_T64 t167 (ji13)).f1), .int .i64 (wrap64 (1 + (wrap64 (Int.tmod a2 6)))), .int .i64 t187, .int .i64 t188, .string t189, .bool false, .bool a3]) (ok := fun _ => True) (okp := fun _ => True) ?hr ?hp (fun _ hk => hk) trivial (Below.refl _ _) (Nat.le_refl _) (by simp) ?_; (case hd => rfl); (case hg => rfl); (case hr => first | (go_simp; done) | (go_simp; rfl)); (case hp => exact (Reps.c7 (show Kd.M k28 _ _ _ (⟨((rd_T64 t167 (ji13)).f1), (wrap64 (1 + (wrap64 (Int.tmod a2 6)))), (⟨t187, t188, t189⟩ : S26), false, a3⟩ : S28) [.string ((rd_T64 t167 (ji13)).f1), .int .i64 (wrap64 (1 + (wrap64 (Int.tmod a2 6)))), .int .i64 t187, .int .i64 t188, .string t189, .bool false, .bool a3] from (k28_mkM _ _ _ (⟨((rd_T64 t167 (ji13)).f1), (wrap64 (1 + (wrap64 (Int.tmod a2 6)))), (⟨t187, t188, t189⟩ : S26), false, a3⟩ : S28) )) (Reps.none _ _))); intro v195 w180 ho181 hb hg_ hnew_; clear hg_ hnew_; (first | rw [← Ny194.out] at ho181 | (simp only [Int.reduceToNat] at ho181; rw [← Ny194.out] at ho181)); have n0_ := qR HO_13 hb; have n1_ := qR HO_179000 hb; have n2_ := qR HO_180003 hb; have n3_ := Aside0.mk (Kd.R_lower (Kd.R_newB (Kd.R_newB (Kd.R_newB ho181 (g := gb191) (o := .cells #[.string ((rd_T64 t167 (ji13)).f1), .int .i64 (wrap64 (1 + (wrap64 (Int.tmod a2 6)))), .int .i64 t187, .int .i64 t188, .string t189, .bool false, .bool a3] 28 (0, 0)) (qA BK191)) (g := gb192) (o := .cells #[.string ((rd_T64 t167 (ji13)).f1), .int .i64 7, .int .i64 t187, .int .i64 t188, .string t189, .bool false, .bool a3] 28 (0, 0)) (qA BK192)) (g := gb193) (o := .cells #[.string ((rd_T64 t167 (ji13)).f1), .int .i64 8, .int .i64 t187, .int .i64 t188, .string t189, .bool false, .bool a3] 28 (0, 0)) (qA BK193)) (qZ HB)); have n4_ := qB BK178 hb; have n5_ := qB BK179 hb; have n6_ := qB BK191 hb; have n7_ := qB BK192 hb; have n8_ := qB BK193 hb; have n9_ := qS HB hb; clear HO_13 HO_179000; clear HO_180003 BK178; clear BK179 BK191; clear BK192 BK193 HB; have HO_13 := n0_; have HO_179000 := n1_; have HO_180003 := n2_; have HO196 := n3_; have BK178 := n4_; have BK179 := n5_; have BK191 := n6_; have BK192 := n7_; have BK193 := n8_; have HB := n9_; clear n0_ n1_ n2_ n3_ n4_ n5_ n6_ n7_ n8_ n9_; clear hb ho181; obtain ⟨Ao182, co182, eo182⟩ := Kd.R_slice HO196.out; subst eo182) | ((with_reducible refine gate_callee (f := 17) rfl ?_); refine goesL_ (some 72) rfl rfl Try.func17 (by kernel_rfl) rfl #[.agg #[.slice (some ad185) t167.length co25, .int .i64 t170], .slice Ao182 y194.length co182, .slice (some ⟨go16, 0, none⟩) y184.length co16] rfl (by (try simp only [List.map_toArray, List.map_cons, List.map_nil]); first | done | rfl | (simp only [List.length_drop, List.length_take]; rfl)) ?_; (with_reducible refine (pred_Row.calls kj18 _ _ t167 t170 _ _ y194 _ _ y184 t197 _ ?side1 ?side2 ?side3 ?side4 ?side5 ?side6 A77.out).mono ?_); (case side1 => repeat (first | exact (Kd.R_reads' HO_179000.out).2.2 | (with_reducible refine Kd.C_alloc ?_ _) | (with_reducible refine Kd.C_drewN ?_ _) | (with_reducible refine Kd.C_drew ?_))); (case side2 => exact (Kd.R_reads' HO_179000.out).2.1); (case side3 => repeat (first | exact (Kd.R_reads' HO196.out).2.2 | (with_reducible refine Kd.C_alloc ?_ _) | (with_reducible refine Kd.C_drewN ?_ _) | (with_reducible refine Kd.C_drew ?_))); (case side4 => exact (Kd.R_reads' HO196.out).2.1); (case side5 => repeat (first | exact (Kd.R_reads' HO_13.out).2.2 | (with_reducible refine Kd.C_alloc ?_ _) | (with_reducible refine Kd.C_drewN ?_ _) | (with_reducible refine Kd.C_drew ?_))); (case side6 => exact (Kd.R_reads' HO_13.out).2.1); rintro e w183 ⟨rfl, hb⟩; refine ⟨_, rfl, ?_⟩; have n0_ := qR HO_13 hb; have n1_ := qR HO_179000 hb; have n2_ := qR HO_180003 hb; have n3_ := qR HO196 hb; have n4_ := qB BK178 hb; have n5_ := qB BK179 hb; have n6_ := qB BK191 hb; have n7_ := qB BK192 hb; have n8_ := qB BK193 hb; have n9_ := qS HB hb; clear HO_13 HO_179000; clear HO_180003 HO196; clear BK178 BK179; clear BK191 BK192; clear BK193 HB; have HO_13 := n0_; have HO_179000 := n1_; have HO_180003 := n2_; have HO196 := n3_; have BK178 := n4_; have BK179 := n5_; have BK191 := n6_; have BK192 := n7_; have BK193 := n8_; have HB := n9_; clear n0_ n1_ n2_ n3_ n4_ n5_ n6_ n7_ n8_ n9_; (try clear hb)))
    go_ret
    exact ⟨by first | rfl | (simp [errW_none, errW_some] <;> rfl) | (simp only [← hji13]; first | rfl | (simp [errW_none, errW_some] <;> rfl)) | (simp [*, errW_none, errW_some] <;> rfl), by repeat (first | (with_reducible first | exact HB.out | apply below_alloc | apply pw_below_drewN | apply below_drew1 | refine below_set ?_ GE178.out | refine below_set ?_ GE179.out | refine below_set ?_ GE191.out | refine below_set ?_ GE192.out | refine below_set ?_ GE193.out) | exact HB.out)⟩
end Go.Proofs.Ytiicfblccklfhaa.PPN
end
section
namespace Go.Proofs.Ytiicfblccklfhaa.PPN
open Go.RowKit Go.Proofs.YtiicfblccklfhaaW.PrintWords Go.Proofs.YtiicfblccklfhaaW.PrintLast Go.Proofs.YtiicfblccklfhaaW.PrintMore
attribute [local go_sem] max2_int min2_int max_two min_two max_three min_three max_four min_four
open Go.Proofs.Ytiicfblccklfhaa.Ext Go.Proofs.Ytiicfblccklfhaa.PK Go.Proofs.Ytiicfblccklfhaa.PPF
set_option linter.unusedVariables false
set_option linter.unusedSimpArgs false
theorem rabbetlaw23_PredNulls.calls (k : Nat) (A0 : Option Addr) (c0 : Nat) (l0 : List Int) (a1 : Int) (a2 : Int) (a3 : Bool) (r : Bool) (w : World) (hr0 : Kd.C (Kd.int .u8) w A0 l0.length l0) (hc0 : l0.length ≤ c0) (h : rabbetlaw23_PredNulls.f k l0 a1 a2 a3 = some r) : Calls Try.prog 6 #[.slice A0 l0.length c0, .int .u8 a1, .int .u8 a2, .bool a3] w fun e w' => e = .returned (.bool r) ∧ Below w.heap.size w w' :=
 rabbetlaw23_PredNulls.calls_c.2.2.2.2 rabbetlaw23_PredNulls.calls_r0 rabbetlaw23_PredNulls.calls_r1 rabbetlaw23_PredNulls.calls_r2 rabbetlaw23_PredNulls.calls_r3 k A0 c0 l0 a1 a2 a3 r w hr0 hc0 h
end Go.Proofs.Ytiicfblccklfhaa.PPN
end
section
namespace Go.Proofs.Ytiicfblccklfhaa.Pure
open Go.RowKit Go.Proofs.YtiicfblccklfhaaW.PrintWords Go.Proofs.YtiicfblccklfhaaW.PrintLast Go.Proofs.YtiicfblccklfhaaW.PrintMore Go.Proofs.Ytiicfblccklfhaa.Ext Go.Proofs.Ytiicfblccklfhaa.PK Go.Proofs.Ytiicfblccklfhaa.PPN
set_option linter.unusedVariables false
theorem p_wrap64 {n : Int} (h0 : -9223372036854775808 ≤ n) (h1 : n ≤ 9223372036854775807) : wrap64 n = n := by unfold wrap64; omega
theorem p_wf8 {i : Int} (h : (Lit.int .u8 i).wf = true) : 0 ≤ i ∧ i ≤ 255 := by
 simp [Lit.wf, IntKind.min, IntKind.max, IntKind.signed, IntKind.bits] at h
 omega
def Nums (l : List Int) (n : Int) : Prop := (∀ x ∈ l, 0 ≤ x ∧ x ≤ 255) ∧ l.length ≤ 1000 ∧ 0 ≤ n ∧ n ≤ l.length
theorem Nums.of {l : List Int} {n n' : Int} (h : Nums l n) (h0 : 0 ≤ n') (h1 : n' ≤ l.length) : Nums l n' := ⟨h.1, h.2.1, h0, h1⟩
theorem num_is {l : List Int} {n : Int} (h : Nums l n) (m : Int) (hm : 0 < m) : ∃ v n', rabbetplay_Picks_Num.f l n m = some (v, n') ∧ 0 ≤ v ∧ v < m ∧ Nums l n' := by
 obtain ⟨hl, hL, h0, h1⟩ := h
 unfold rabbetplay_Picks_Num.f
 by_cases hn : n ≥ (l.length : Int)
 ·exact ⟨0, n, by rw [if_pos hn], by omega, hm, ⟨hl, hL, h0, h1⟩⟩
 ·have e1 : wrap64 (n + 1) = n + 1 := p_wrap64 (by omega) (by omega)
  have e2 : wrap64 (n + 1 - 1) = n := by rw [p_wrap64 (by omega) (by omega)]; omega
  have hx : 0 ≤ rd l n ∧ rd l n ≤ 255 := by
   have hi : n.toNat < l.length := by omega
   have : rd l n = l[n.toNat] := by unfold rd; simp [List.getD, hi]
   rw [this]
   exact hl _ (List.getElem_mem hi)
  rw [if_neg hn, e1, e2, if_pos h0, if_pos (by omega), if_neg (by omega), p_wrap64 (by omega) (by omega)]
  have hm1 := Int.tmod_nonneg m hx.1
  have hm2 := Int.tmod_lt_of_pos (rd l n) hm
  exact ⟨_, _, rfl, hm1, hm2, ⟨hl, hL, by omega, by omega⟩⟩
def OkVal (ty t i : Int) (s : ByteArray) : Prop :=
 (t = 0 ∧ i = 0 ∧ s = ⟨#[]⟩) ∨ (t = ty ∧ ty ≠ 4 ∧ s = ⟨#[]⟩ ∧ -9223372036854775808 ≤ i ∧ i ≤ 9223372036854775807 ∧ (ty = 1 → -32768 ≤ i ∧ i ≤ 32767) ∧ (ty = 3 → i = 0 ∨ i = 1)) ∨ (t = 4 ∧ ty = 4 ∧ i = 0 ∧ s.size ≤ 20)
theorem value_j0 (k : Nat) (ty v : Int) (b : Bool) (l : List Int) (n : Int) (h1 : 1 ≤ ty) (h2 : ty ≤ 4) (v0 : 0 ≤ v) (v1 : v < 9) :
  ∃ t i s, rabbetplay_Picks_Value.j0 (k + 1) ty v b l n = some (t, i, s, n) ∧ OkVal ty t i s := by
 unfold rabbetplay_Picks_Value.j0
 cases b
 ·have hv : v = 0 ∨ v = 1 ∨ v = 2 ∨ v = 3 ∨ v = 4 ∨ v = 5 ∨ v = 6 ∨ v = 7 ∨ v = 8 := by omega
  have ht : ty = 1 ∨ ty = 2 ∨ ty = 3 ∨ ty = 4 := by omega
  rcases ht with rfl | rfl | rfl | rfl
  ·rcases hv with rfl | rfl | rfl | rfl | rfl | rfl | rfl | rfl | rfl <;> exact ⟨_, _, _, rfl, .inr (.inl ⟨rfl, by decide, rfl, by decide, by decide, by decide, by decide⟩)⟩
  ·rcases hv with rfl | rfl | rfl | rfl | rfl | rfl | rfl | rfl | rfl <;> exact ⟨_, _, _, rfl, .inr (.inl ⟨rfl, by decide, rfl, by decide, by decide, by decide, by decide⟩)⟩
  ·rcases hv with rfl | rfl | rfl | rfl | rfl | rfl | rfl | rfl | rfl <;> exact ⟨_, _, _, rfl, .inr (.inl ⟨rfl, by decide, rfl, by decide, by decide, by decide, by decide⟩)⟩
  ·rcases hv with rfl | rfl | rfl | rfl | rfl | rfl | rfl | rfl | rfl <;> exact ⟨_, _, _, rfl, .inr (.inr ⟨rfl, rfl, rfl, by decide⟩)⟩
 ·exact ⟨0, 0, ⟨#[]⟩, rfl, .inl ⟨rfl, rfl, rfl⟩⟩
theorem value_ok (k : Nat) {l : List Int} {n : Int} (h : Nums l n) (ty : Int) (h1 : 1 ≤ ty) (h2 : ty ≤ 4) :
  ∃ t i s n', rabbetplay_Picks_Value.f (k + 1) l n ty = some (t, i, s, n') ∧ OkVal ty t i s ∧ Nums l n' := by
 obtain ⟨v, n', hv, v0, v1, hn⟩ := num_is h 9 (by decide)
 unfold rabbetplay_Picks_Value.f
 rw [hv, Option.bind_some]
 dsimp only
 by_cases e : v = 0
 ·rw [if_pos e]
  unfold rabbetplay_Picks_Over.f
  rw [Option.bind_some]
  dsimp only
  obtain ⟨t, i, s, q, ok⟩ := value_j0 k ty v (!decide (n' ≥ (l.length : Int))) l n' h1 h2 v0 v1
  exact ⟨t, i, s, n', q, ok, hn⟩
 ·rw [if_neg e]
  obtain ⟨t, i, s, q, ok⟩ := value_j0 k ty v false l n' h1 h2 v0 v1
  exact ⟨t, i, s, n', q, ok, hn⟩
theorem name_b : (⟨#[99]⟩ : ByteArray) ++ strOfNums [(wrap64 (97 + 1)) % 256] = ⟨#[99, 98]⟩ := by decide +kernel
theorem name_c : (⟨#[99]⟩ : ByteArray) ++ strOfNums [(wrap64 (97 + 2)) % 256] = ⟨#[99, 99]⟩ := by decide +kernel
theorem w21 : wrap64 (2 - 1) = 1 := by unfold wrap64; decide
theorem w11 : wrap64 (1 - 1) = 0 := by unfold wrap64; decide
theorem w3 : wrap64 (2 + 1) = 3 := by unfold wrap64; decide
theorem w4 : wrap64 (3 + 1) = 4 := by unfold wrap64; decide
def Cols (c : List S64) : Prop := ∃ t, (1 ≤ t ∧ t ≤ 4) ∧ (c = [⟨1, ⟨#[105, 100]⟩, t⟩, ⟨2, ⟨#[116]⟩, 4⟩] ∨
 (∃ u, (1 ≤ u ∧ u ≤ 4) ∧ c = [⟨1, ⟨#[105, 100]⟩, t⟩, ⟨2, ⟨#[116]⟩, 4⟩, ⟨3, ⟨#[99, 98]⟩, u⟩]) ∨
 (∃ u v, (1 ≤ u ∧ u ≤ 4) ∧ (1 ≤ v ∧ v ≤ 4) ∧ c = [⟨1, ⟨#[105, 100]⟩, t⟩, ⟨2, ⟨#[116]⟩, 4⟩, ⟨3, ⟨#[99, 99]⟩, u⟩, ⟨4, ⟨#[99, 98]⟩, v⟩]))
theorem Cols.len {c : List S64} (h : Cols c) : 2 ≤ c.length ∧ c.length ≤ 4 := by
 obtain ⟨t, _, rfl | ⟨u, _, rfl⟩ | ⟨u, v, _, _, rfl⟩⟩ := h <;> simp
theorem Cols.type {c : List S64} (h : Cols c) (i : Int) (h0 : 0 ≤ i) (h1 : i < c.length) : 1 ≤ (rd_T64 c i).f2 ∧ (rd_T64 c i).f2 ≤ 4 := by
 obtain ⟨t, ht, rfl | ⟨u, hu, rfl⟩ | ⟨u, v, hu, hv, rfl⟩⟩ := h
 ·obtain rfl | rfl : i = 0 ∨ i = 1 := by simp at h1; omega
  ·exact ht
  ·exact ⟨show (1 : Int) ≤ 4 by decide, show (4 : Int) ≤ 4 by decide⟩
 ·obtain rfl | rfl | rfl : i = 0 ∨ i = 1 ∨ i = 2 := by simp at h1; omega
  ·exact ht
  ·exact ⟨show (1 : Int) ≤ 4 by decide, show (4 : Int) ≤ 4 by decide⟩
  ·exact hu
 ·obtain rfl | rfl | rfl | rfl : i = 0 ∨ i = 1 ∨ i = 2 ∨ i = 3 := by simp at h1; omega
  ·exact ht
  ·exact ⟨show (1 : Int) ≤ 4 by decide, show (4 : Int) ≤ 4 by decide⟩
  ·exact hu
  ·exact hv
theorem schema_j2 (k : Nat) {l : List Int} {n : Int} (h : Nums l n) (c : List S64) (hc : 0 < c.length) (last a b d : Int) (e : List Int) :
  ∃ a' b' d' n', rabbetplay_Picks_Schema.j2 (k + 1) l n c last a b d e = some (c, last, a', b', d', e, n') ∧ Nums l n' := by
 unfold rabbetplay_Picks_Schema.j2
 try dsimp only
 obtain ⟨v, n1, q, v0, v1, h1⟩ := num_is h 2 (by decide)
 rw [q, Option.bind_some]; dsimp only
 by_cases e1 : v = 1
 ·obtain ⟨v2, n2, q2, _, _, h2⟩ := num_is h1 (c.length : Int) (by omega)
  obtain ⟨v3, n3, q3, _, _, h3⟩ := num_is h2 4 (by decide)
  rw [if_pos e1, q2, Option.bind_some]; dsimp only
  rw [q3, Option.bind_some]
  exact ⟨_, _, _, _, rfl, h3⟩
 ·rw [if_neg e1]
  exact ⟨_, _, _, _, rfl, h1⟩
theorem schema_l1 (k : Nat) (c : List S64) (hc : 0 < c.length) (hc4 : c.length ≤ 4) (last a b d : Int) :
  ∀ (m : Nat) {l : List Int} {n : Int} (h : Nums l n) (x : Int) (e : List Int), 0 ≤ x → x + m = c.length → e.length + m ≤ 4 →
   ∃ a' b' d' e' n', rabbetplay_Picks_Schema.l1 (m + 2 + k) x l n c last a b d e = some (c, last, a', b', d', e', n') ∧ Nums l n'
 | 0, l, n, h, x, e, h0, hx, he => by
  rw [show 0 + 2 + k = (k + 1) + 1 by omega]
  unfold rabbetplay_Picks_Schema.l1
  try dsimp only
  rw [if_neg (by omega)]
  obtain ⟨v, n1, q, v0, v1, h1⟩ := num_is h 2 (by decide)
  rw [q, Option.bind_some]; dsimp only
  by_cases e1 : v = 1
  ·obtain ⟨v2, n2, q2, _, _, h2⟩ := num_is h1 (c.length : Int) (by omega)
   rw [if_pos e1, q2, Option.bind_some]; dsimp only
   obtain ⟨a', b', d', n', q3, h3⟩ := schema_j2 k h2 c hc last (wrap64 (1 + v2)) b d e
   exact ⟨a', b', d', e, n', q3, h3⟩
  ·rw [if_neg e1]
   obtain ⟨a', b', d', n', q3, h3⟩ := schema_j2 k h1 c hc last a b d e
   exact ⟨a', b', d', e, n', q3, h3⟩
 | m + 1, l, n, h, x, e, h0, hx, he => by
  rw [show m + 1 + 2 + k = (m + 2 + k) + 1 by omega]
  unfold rabbetplay_Picks_Schema.l1
  try dsimp only
  obtain ⟨v, n1, q, v0, v1, h1⟩ := num_is h 5 (by decide)
  rw [if_pos (by omega), q, Option.bind_some]; dsimp only
  rw [if_pos (by omega), p_wrap64 (by omega) (by omega)]
  exact schema_l1 k c hc hc4 last a b d m h1 (x + 1) _ (by omega) (by omega) (by simp; omega)
theorem schema_l0 (k : Nat) {l : List Int} {n : Int} (h : Nums l n) (t : Int) (ht : 1 ≤ t ∧ t ≤ 4) (x : Int) (h0 : 0 ≤ x) (h3 : x < 3) :
  ∃ c last a' b' d' e' n', rabbetplay_Picks_Schema.l0 (10 + k) x l n [⟨1, ⟨#[105, 100]⟩, t⟩, ⟨2, ⟨#[116]⟩, 4⟩] 2 = some (c, last, a', b', d', e', n') ∧ Cols c ∧ Nums l n' := by
 obtain rfl | rfl | rfl : x = 0 ∨ x = 1 ∨ x = 2 := by omega
 ·rw [show 10 + k = (2 + 2 + (k + 5)) + 1 by omega]
  unfold rabbetplay_Picks_Schema.l0
  try dsimp only
  rw [if_neg (by decide)]
  obtain ⟨a', b', d', e', n', q, hn⟩ := schema_l1 (k + 5) [⟨1, ⟨#[105, 100]⟩, t⟩, ⟨2, ⟨#[116]⟩, 4⟩] (by simp) (by simp) 2 0 0 1 2 h 0 [] (by decide) (by simp) (by simp)
  exact ⟨_, _, a', b', d', e', n', q, ⟨t, ht, .inl rfl⟩, hn⟩
 ·rw [show 10 + k = ((3 + 2 + (k + 3)) + 1) + 1 by omega]
  unfold rabbetplay_Picks_Schema.l0
  try dsimp only
  obtain ⟨v, n1, q1, v0, v1, h1⟩ := num_is h 4 (by decide)
  rw [w3, if_pos (by decide), Option.bind_some, name_b, if_pos (by decide), q1, Option.bind_some]; dsimp only
  rw [if_pos (by simp)]
  unfold rabbetplay_Picks_Schema.l0
  try dsimp only
  rw [w11, if_neg (by decide)]
  have hv : 1 ≤ wrap64 (1 + v) ∧ wrap64 (1 + v) ≤ 4 := by rw [p_wrap64 (by omega) (by omega)]; omega
  obtain ⟨a', b', d', e', n', q, hn⟩ := schema_l1 (k + 3) ([⟨1, ⟨#[105, 100]⟩, t⟩, ⟨2, ⟨#[116]⟩, 4⟩] ++ [⟨3, ⟨#[99, 98]⟩, wrap64 (1 + v)⟩]) (by simp) (by simp) (3) 0 0 1 3 h1 0 [] (by decide) (by simp) (by simp)
  exact ⟨_, _, a', b', d', e', n', q, ⟨t, ht, .inr (.inl ⟨_, hv, rfl⟩)⟩, hn⟩
 ·rw [show 10 + k = (((4 + 2 + (k + 1)) + 1) + 1) + 1 by omega]
  unfold rabbetplay_Picks_Schema.l0
  try dsimp only
  obtain ⟨v, n1, q1, v0, v1, h1⟩ := num_is h 4 (by decide)
  rw [w3, if_pos (by decide), Option.bind_some, name_c, if_pos (by decide), q1, Option.bind_some]; dsimp only
  rw [if_pos (by simp)]
  unfold rabbetplay_Picks_Schema.l0
  try dsimp only
  obtain ⟨v', n2, q2, v0', v1', h2⟩ := num_is h1 4 (by decide)
  rw [w21, w4, if_pos (by decide), Option.bind_some, name_b, if_pos (by decide), q2, Option.bind_some]; dsimp only
  rw [if_pos (by simp)]
  unfold rabbetplay_Picks_Schema.l0
  try dsimp only
  rw [w11, if_neg (by decide)]
  have hv : 1 ≤ wrap64 (1 + v) ∧ wrap64 (1 + v) ≤ 4 := by rw [p_wrap64 (by omega) (by omega)]; omega
  have hv' : 1 ≤ wrap64 (1 + v') ∧ wrap64 (1 + v') ≤ 4 := by rw [p_wrap64 (by omega) (by omega)]; omega
  obtain ⟨a', b', d', e', n', q, hn⟩ := schema_l1 (k + 1) ([⟨1, ⟨#[105, 100]⟩, t⟩, ⟨2, ⟨#[116]⟩, 4⟩] ++ [⟨3, ⟨#[99, 99]⟩, wrap64 (1 + v)⟩] ++ [⟨4, ⟨#[99, 98]⟩, wrap64 (1 + v')⟩]) (by simp) (by simp) (4) 0 0 1 4 h2 0 [] (by decide) (by simp) (by simp)
  exact ⟨_, _, a', b', d', e', n', q, ⟨t, ht, .inr (.inr ⟨_, _, hv, hv', rfl⟩)⟩, hn⟩
theorem schema_ok (k : Nat) {l : List Int} {n : Int} (h : Nums l n) :
  ∃ c last a' b' d' e' n', rabbetplay_Picks_Schema.f (10 + k) l n = some (c, last, a', b', d', e', n') ∧ Cols c ∧ Nums l n' := by
 unfold rabbetplay_Picks_Schema.f
 obtain ⟨v, n1, q1, v0, v1, h1⟩ := num_is h 4 (by decide)
 obtain ⟨x, n2, q2, x0, x1, h2⟩ := num_is h1 3 (by decide)
 rw [q1, Option.bind_some]; dsimp only
 rw [q2, Option.bind_some]; dsimp only
 exact schema_l0 k h2 (wrap64 (1 + v)) (by rw [p_wrap64 (by omega) (by omega)]; omega) x x0 x1
theorem row_l0 (k : Nat) (c : List S64) (hc : Cols c) (last : Int) :
  ∀ (m : Nat) {l : List Int} {n : Int} (h : Nums l n) (x : Int) (r : List S26), x = r.length → r.length + m = c.length →
   (∀ i : Int, 0 ≤ i → i < r.length → OkVal (rd_T64 c i).f2 (rd_T26 r i).f0 (rd_T26 r i).f1 (rd_T26 r i).f2) →
   ∃ r' n', rabbetplay_Picks_Row.l0 (m + 2 + k) r x l n c last = some (r', n') ∧ r'.length = c.length ∧
    (∀ i : Int, 0 ≤ i → i < r'.length → OkVal (rd_T64 c i).f2 (rd_T26 r' i).f0 (rd_T26 r' i).f1 (rd_T26 r' i).f2) ∧ Nums l n'
 | 0, l, n, h, x, r, hx, hr, hv => by
  rw [show 0 + 2 + k = (k + 1) + 1 by omega]
  unfold rabbetplay_Picks_Row.l0
  try dsimp only
  rw [if_neg (by omega)]
  exact ⟨r, n, rfl, by omega, hv, h⟩
 | m + 1, l, n, h, x, r, hx, hr, hv => by
  have hL := hc.len
  rw [show m + 1 + 2 + k = (m + 2 + k) + 1 by omega]
  unfold rabbetplay_Picks_Row.l0
  try dsimp only
  obtain ⟨t1, t2⟩ := hc.type x (by omega) (by omega)
  obtain ⟨t, i, s, n1, q, ok, h1⟩ := value_ok (m + 1 + k) h _ t1 t2
  rw [if_pos (by omega), if_pos (by omega), show m + 2 + k = m + 1 + k + 1 by omega, q, Option.bind_some]; dsimp only
  rw [if_pos (by omega), p_wrap64 (by omega) (by omega), show m + 1 + k + 1 = m + 2 + k by omega]
  refine row_l0 k c hc last m h1 (x + 1) (r ++ [⟨t, i, s⟩]) (by simp; omega) (by simp; omega) ?_
  intro j j0 j1
  by_cases hj : j = x
  ·subst hj
   have : rd_T26 (r ++ [⟨t, i, s⟩]) j = ⟨t, i, s⟩ := by
    unfold rd_T26
    rw [hx]
    simp [List.getD]
   rw [this]
   exact ok
  ·have hj1 : j < r.length := by simp at j1; omega
   have : rd_T26 (r ++ [⟨t, i, s⟩]) j = rd_T26 r j := by
    unfold rd_T26
    have : j.toNat < r.length := by omega
    simp [List.getD, List.getElem?_append, this]
   rw [this]
   exact hv j j0 hj1
theorem row_ok (k : Nat) (c : List S64) (hc : Cols c) (last : Int) {l : List Int} {n : Int} (h : Nums l n) :
  ∃ r n', rabbetplay_Picks_Row.f (6 + k) l n c last = some (r, n') ∧ r.length = c.length ∧
   (∀ i : Int, 0 ≤ i → i < r.length → OkVal (rd_T64 c i).f2 (rd_T26 r i).f0 (rd_T26 r i).f1 (rd_T26 r i).f2) ∧ Nums l n' := by
 unfold rabbetplay_Picks_Row.f
 have hL := hc.len
 rw [show 6 + k = c.length + 2 + (k + (4 - c.length)) by omega]
 exact row_l0 _ c hc last c.length h 0 [] (by simp) (by simp) (by intro i h0 h1; simp at h1; omega)
end Go.Proofs.Ytiicfblccklfhaa.Pure
end
section
namespace Go.Proofs.Ytiicfblccklfhaa.Pure
open Go.RowKit Go.Proofs.YtiicfblccklfhaaW.PrintWords Go.Proofs.YtiicfblccklfhaaW.PrintLast Go.Proofs.YtiicfblccklfhaaW.PrintMore Go.Proofs.Ytiicfblccklfhaa.Ext Go.Proofs.Ytiicfblccklfhaa.PK Go.Proofs.Ytiicfblccklfhaa.PM Go.Proofs.Ytiicfblccklfhaa.PG Go.Proofs.Ytiicfblccklfhaa.PPF Go.Proofs.Ytiicfblccklfhaa.PPN
set_option linter.unusedVariables false
theorem pbegun_ok : rabbetlaw23_begun.f 20 = some true := by decide +kernel
theorem groups_one (k : Nat) (t : S28) : pred_groups.f (k + 2) [t] = some [[t]] := by
 have hw : wrap64 ((((([] : List (List S28)) ++ [[]]).length : Nat) : Int) - 1) = 0 := by
  show wrap64 (1 - 1) = 0
  exact w11
 unfold pred_groups.f pred_groups.l0
 try dsimp only
 rw [if_pos (by simp), if_pos (by decide), if_pos (by simp), if_pos rfl, if_pos (by decide), Option.bind_some, hw, if_pos (by decide), if_pos (by simp), if_pos (by simp [rd_L13])]
 unfold pred_groups.l0
 try dsimp only
 rw [if_neg (by rw [p_wrap64 (by decide) (by decide)]; simp)]
 rfl
theorem name_at {c : List S64} (h : Cols c) (i : Int) (h0 : 0 ≤ i) (h1 : i < c.length) : placeOf (rd_T64 c i).f1 c 0 = i := by
 obtain ⟨t, ht, rfl | ⟨u, hu, rfl⟩ | ⟨u, v, hu, hv, rfl⟩⟩ := h
 ·obtain rfl | rfl : i = 0 ∨ i = 1 := by simp at h1; omega
  all_goals simp [placeOf, rd_T64, ByteArray.toList_eq]
 ·obtain rfl | rfl | rfl : i = 0 ∨ i = 1 ∨ i = 2 := by simp at h1; omega
  all_goals simp [placeOf, rd_T64, ByteArray.toList_eq]
 ·obtain rfl | rfl | rfl | rfl : i = 0 ∨ i = 1 ∨ i = 2 ∨ i = 3 := by simp at h1; omega
  all_goals simp [placeOf, rd_T64, ByteArray.toList_eq]
theorem row_one (k : Nat) {c : List S64} (h : Cols c) (last : Int) (i : Int) (h0 : 0 ≤ i) (h1 : i < c.length) (r : List S26) (hr : r.length = c.length)
  (op : Int) (v : S26) (o n : Bool) (x : Int) (hx : testV ⟨(rd_T64 c i).f1, op, v, o, n⟩ (rd_T26 r i) = x) (x0 : 0 ≤ x) (x2 : x ≤ 2) :
  pred_Row.f (k + 2) c last [⟨(rd_T64 c i).f1, op, v, o, n⟩] r = some x := by
 unfold pred_Row.f
 rw [if_neg (by simp), groups_one, Option.bind_some]
 simp only [allV, leastV, name_at h i h0 h1]
 rw [if_pos ⟨h0, by omega⟩, hx]
 congr 1
 omega
theorem rd_set (r : List S26) (i : Int) (h0 : 0 ≤ i) (h1 : i < r.length) (v : S26) : rd_T26 (r.set i.toNat v) i = v := by
 unfold rd_T26
 have : i.toNat < r.length := by omega
 simp [List.getD, this]
theorem rows_none (k : Nat) (c : List S64) (last : Int) (l : List S28) : pred_Rows.f (k + 1) c last l [] = some [] := by
 unfold pred_Rows.f pred_many.f
 rw [if_pos (by simp), Option.bind_some]
 unfold pred_Rows.l0
 rfl
theorem nulls_j0 (k : Nat) {c : List S64} (h : Cols c) (last : Int) (i : Int) (h0 : 0 ≤ i) (h1 : i < c.length) (r : List S26) (hr : r.length = c.length)
  (hz : rd_T26 r i = ⟨0, 0, ⟨#[]⟩⟩) (op : Int) (o1 : 1 ≤ op) (o6 : op ≤ 6) (t v : Int) (s : ByteArray) (n : Bool) :
  rabbetlaw23_PredNulls.j0 (k + 3) r (if n then 0 else 2) c last (rd_T64 c i).f1 op t v s false n (rd_T64 c i).f1 7 t v s false n (rd_T64 c i).f1 8 t v s false n = some true := by
 unfold rabbetlaw23_PredNulls.j0
 try dsimp only
 have t1 : testV ⟨(rd_T64 c i).f1, op, ⟨t, v, s⟩, false, n⟩ (rd_T26 r i) = 1 := by
  rw [hz]
  unfold testV pred_test.f pred_asks.f
  dsimp only
  rw [if_neg (by omega), show (op == 8) = false by rw [beq_eq_false_iff_ne]; omega, Option.bind_some, if_neg (by decide), if_pos rfl]
  unfold pred_test.j0
  cases n <;> rfl
 have t2 : testV ⟨(rd_T64 c i).f1, 7, ⟨t, v, s⟩, false, n⟩ (rd_T26 r i) = (if n then 0 else 2) := by
  rw [hz]
  cases n
  ·rfl
  ·unfold testV pred_test.f pred_asks.f
   dsimp only
   rw [if_pos rfl, Option.bind_some, if_pos rfl]
   show (some (wrap64 (2 - 2))).getD 0 = 0
   rw [p_wrap64 (by decide) (by decide)]
   rfl
 have t3 : testV ⟨(rd_T64 c i).f1, 8, ⟨t, v, s⟩, false, n⟩ (rd_T26 r i) = 2 - (if n then 0 else 2) := by
  rw [hz]
  cases n
  ·rfl
  ·unfold testV pred_test.f pred_asks.f
   dsimp only
   rw [if_neg (by decide), Option.bind_some, if_pos (by decide)]
   show (some (wrap64 (2 - 0))).getD 0 = 2 - 0
   rw [p_wrap64 (by decide) (by decide)]
   rfl
 rw [row_one k h last i h0 h1 r hr op _ _ _ 1 t1 (by decide) (by decide), Option.bind_some, if_pos rfl]
 rw [row_one k h last i h0 h1 r hr 7 _ _ _ _ t2 (by cases n <;> decide) (by cases n <;> decide), Option.bind_some, if_pos rfl]
 rw [row_one k h last i h0 h1 r hr 8 _ _ _ _ t3 (by cases n <;> decide) (by cases n <;> decide), Option.bind_some, if_pos (by cases n <;> (rw [p_wrap64 (by decide) (by decide)])), rows_none]
 rfl
theorem PredNulls (l0 : List Int) (a1 a2 : Int) (a3 : Bool)
  (_ : l0.length ≤ maxLen) (_ : l0.length * 1 ≤ 140737488351232) (w0 : ∀ x ∈ l0, (Lit.int .u8 x).wf = true) (w1 : (Lit.int .u8 a1).wf = true) (w2 : (Lit.int .u8 a2).wf = true) :
  ∃ k, rabbetlaw23_PredNulls.f k l0 a1 a2 a3 = some true := by
 refine ⟨20, ?_⟩
 obtain ⟨a10, a11⟩ := p_wf8 w1
 obtain ⟨a20, a21⟩ := p_wf8 w2
 unfold rabbetlaw23_PredNulls.f
 rw [pbegun_ok, Option.bind_some, if_pos rfl]
 by_cases hl : (l0.length : Int) > 60
 ·rw [if_pos hl]
 rw [if_neg hl]
 have hN : Nums l0 0 := ⟨fun x hx => p_wf8 (w0 x hx), by omega, by decide, by omega⟩
 obtain ⟨c, last, a', b', d', e', n1, q1, hc, h1⟩ := schema_ok 10 hN
 obtain ⟨r, n2, q2, hr, hv, h2⟩ := row_ok 14 c hc last h1
 have hL := hc.len
 unfold rabbetplay_Made.f
 rw [Option.bind_some]
 try dsimp only
 rw [show (20 : Nat) = 10 + 10 from rfl, q1, Option.bind_some]
 try dsimp only
 have q2' : rabbetplay_Picks_Row.f (10 + 10) l0 n1 c last = some (r, n2) := q2
 rw [if_neg (by omega), q2', Option.bind_some]
 try dsimp only
 rw [p_wrap64 (n := a1) (by omega) (by omega)]
 have m0 := Int.tmod_nonneg (c.length : Int) a10
 have m1 := Int.tmod_lt_of_pos a1 (show 0 < (c.length : Int) by omega)
 have o0 := Int.tmod_nonneg 6 a20
 have o1 := Int.tmod_lt_of_pos a2 (show 0 < (6 : Int) by omega)
 generalize Int.tmod a1 (c.length : Int) = i at *
 rw [if_pos m0, if_pos (by omega), Option.bind_some, if_pos m1]
 obtain ⟨y0, y1⟩ := hc.type i m0 m1
 obtain ⟨t, v, s, n3, q3, _, h3⟩ := value_ok 19 h2 _ y0 y1
 have q3' : rabbetplay_Picks_Value.f (10 + 10) l0 n2 (rd_T64 c i).f2 = some (t, v, s, n3) := q3
 rw [q3', Option.bind_some]
 try dsimp only
 rw [p_wrap64 (n := Int.tmod a2 6) (by omega) (by omega), p_wrap64 (n := 1 + Int.tmod a2 6) (by omega) (by omega)]
 have J := nulls_j0 17 hc last i m0 m1 (r.set i.toNat ⟨0, 0, ⟨#[]⟩⟩) (by simp; omega) (rd_set r i m0 (by omega) _) (1 + Int.tmod a2 6) (by omega) (by omega) t v s a3
 cases a3
 ·rw [if_neg (by decide)]
  exact J
 ·rw [if_pos rfl]
  exact J
end Go.Proofs.Ytiicfblccklfhaa.Pure
end
section
namespace Go.Proofs.Ytiicfblccklfhaa.predNulls
open Go.ChangeShapes Go.WideShapes Go.ChangeAt Go.RowKit Go.Joins
open Go.ChangeMaps (open_string shut_string)
set_option linter.unusedVariables false
theorem own : ownKnob Try.prog.godebug = none := by kernel_rfl
theorem laidOut : laidOutB Try.prog = true := by kernel_rfl
def IsRow (k : IntKind) (w : World) (a : Option Addr) (len cap : Nat) (zs : List Int) : Prop :=
 (a = none ∧ len = 0 ∧ cap = 0 ∧ zs = []) ∨
 ∃ x, a = some x ∧ len ≤ cap ∧ cap ≤ maxLen ∧ zs.length = cap ∧ (∀ i, i < zs.length → w.cell? (x.add i) = some (.int k (zs.getD i 0))) ∧ ∀ n ∈ zs, (Lit.int k n).wf = true
set_option maxRecDepth 1000000 in
theorem contract (H : Type) (enc : TypeId × Value → H) (W : World) (base : Nat) (args : Array Value) (ds gs : List (DataW H)) (before : List MemPlace)
  (hval0 : ∀ (j : Nat) t v, Try.f6.params[j]? = some t → args[j]? = some v → Value.okWide Try.prog W .any base t v)
  (hW : DataW.Whole enc Try.prog Try.f6.params.toList Rows.predNullsSpec.vars false W args.toList ds gs before)
  (hsz0 : (DataW.weightsEach Try.prog (Try.f6.params.toList ++ Rows.predNullsSpec.plain.varTypes Try.prog) (ds ++ gs)).all (· ≤ reachBytes) = true) :
  Calls Try.prog 6 args W fun e W' => ∃ v, e = .returned v ∧ Rows.predNullsSpec.post enc Try.prog Try.f6 false true false false W args v W' := by
 have hval : ∀ (j : Nat) t v, Try.f6.params[j]? = some t → args[j]? = some v → Value.okWide Try.prog W .any base t v := hval0
 have hW' := hW
 obtain ⟨p, q, hA0, hV, rfl, hfz, hnd⟩ := hW
 have hA : DataW.TrodAll enc Try.prog W 0 (fun _ => true) true Try.f6.params.toList args.toList ds p := hA0
 have hsz := hsz0
 rw [Try.params6] at hA hval hsz
 obtain ⟨v0, vs0, d0, ds0, p0, q0, hargs, rfl, rfl, h0, r0⟩ := trodAll_cons hA
 obtain ⟨v1, vs1, d1, ds1, p1, q1, rfl, rfl, rfl, h1, r1⟩ := trodAll_cons r0
 obtain ⟨v2, vs2, d2, ds2, p2, q2, rfl, rfl, rfl, h2, r2⟩ := trodAll_cons r1
 obtain ⟨v3, vs3, d3, ds3, p3, q3, rfl, rfl, rfl, h3, r3⟩ := trodAll_cons r2
 obtain ⟨rfl, rfl, rfl⟩ := trodAll_nil r3
 obtain rfl : args = #[v0, v1, v2, v3] := by cases args; simp_all
 obtain ⟨rfl, rfl⟩ := trodVars_none hV
 obtain ⟨a0, len0, cap0, rfl⟩ := okWide_slice Try.underlying22 (hval 0 22 v0 rfl rfl)
 have k0 := h0
 have lt0 : ∀ x ∈ p0, x.block < W.heap.size := by obtain ⟨m, hm⟩ := k0; exact DataW.trod_lt m _ _ _ hm
 obtain ⟨z0, w0⟩ : ∃ zs, IsRow .u8 W a0 len0 cap0 zs := by
  obtain ⟨fuel, hf⟩ := h0
  rcases open_ints Try.underlying22 Try.underlying5 (by kernel_rfl) hf with ⟨hcs, _⟩ | ⟨x, l, c, zs, hcs, _, hl, hm, hz, _, hcell, hwz⟩
  ·simp [Value.cells] at hcs
   obtain ⟨rfl, rfl, rfl⟩ := hcs
   exact ⟨[], .inl ⟨rfl, rfl, rfl, rfl⟩⟩
  ·simp [Value.cells] at hcs
   obtain ⟨rfl, rfl, rfl⟩ := hcs
   exact ⟨zs, .inr ⟨_, rfl, hl, hm, by simpa using hz, hcell, hwz⟩⟩
 have y0 : len0 * 1 ≤ 140737488351232 := Go.Proofs.YtiicfblccklfhaaW.PrintWords.sized_ints hsz (j := 0) (t := 22) rfl rfl Try.underlying22 Try.underlying5 (by kernel_rfl) (by kernel_rfl) h0
 obtain ⟨l0, rfl, hr0, hm0, hw0, hc0⟩ := Go.Proofs.YtiicfblccklfhaaW.PrintWords.ReadsInt.ofRowC w0
 obtain ⟨a1, rfl, rfl, rfl, w1⟩ := open_int Try.underlying5 (hval 1 5 v1 rfl rfl) h1
 obtain ⟨a2, rfl, rfl, rfl, w2⟩ := open_int Try.underlying5 (hval 2 5 v2 rfl rfl) h2
 obtain ⟨a3, rfl, rfl, rfl⟩ := open_bool Try.underlying4 (hval 3 4 v3 rfl rfl) h3
 clear hA0 hval0 hsz0 hsz
 obtain ⟨k, hk⟩ := Pure.PredNulls l0 a1 a2 a3 hm0 y0 hw0 w1 w2
 refine (PPN.rabbetlaw23_PredNulls.calls k _ _ l0 a1 a2 a3 true W (Go.Proofs.YtiicfblccklfhaaW.PrintWords.Kd.C_of_reads (d := (0 : Int)) (h1 := fun _ => rfl) hr0) hc0 hk).mono fun e W' ⟨he, bel⟩ => ?_
 subst he
 exact ⟨_, rfl, _, _, _, [], _, [], hW', trodAll_mk1 (shut_bool Try.underlying4 _), (trodAll_cons_mk (Below.trod laidOut (by kernel_rfl) (of_decide_eq_true (by kernel_rfl)) k0 bel lt0) (trodAll_cons_mk (shut_int Try.underlying5 w1) (trodAll_cons_mk (shut_int Try.underlying5 w2) (trodAll_cons_mk (shut_bool Try.underlying4 _) trodAll_mk0)))), rfl, bel.frame _, fun h => by cases h⟩
theorem reads (os : Os) {H : Type} (enc : TypeId × Value → H) : ∃ places, DataW.whole enc Try.prog ((World.holding Try.prog os ⟨#[], #[], []⟩).forCall (fun _ _ => 0) ⟨#[], #[.slice none 0 0, .int .u8 0, .int .u8 0, .bool false], []⟩).memory Try.f6.params.toList Rows.predNullsSpec.vars false (#[.slice none 0 0, .int .u8 0, .int .u8 0, .bool false] : Array Value).toList 8 = some ([.nil, .lit (.int .u8 0), .lit (.int .u8 0), .lit (.bool false)], [], places) :=
 ⟨[], by kernel_rfl⟩
set_option maxRecDepth 100000 in
theorem lifted (os : Os) (started : os.Started) (H : Type) (enc : TypeId × Value → H) (F : Stop.Interp) :
  ReturnsInHanded {} Try.checked os 6 .any ((OpenSpec.ofChange Rows.predNullsSpec).preRow enc Try.prog Try.f6 Rows.predNullsRow.domain false Rows.predNullsRow.laid) (((OpenSpec.ofChange Rows.predNullsSpec).at F).post enc Try.prog Try.f6 false true false false) := by
 obtain ⟨places, hx⟩ := reads os enc
 refine returnsInHanded_of_row (C := Try.checked) (s := OpenSpec.ofChange Rows.predNullsSpec) own started (by kernel_rfl) Try.func6
  (witness_row_at (enc := enc) (C := Try.checked) false (World.holding Try.prog os ⟨#[], #[], []⟩) #[.slice none 0 0, .int .u8 0, .int .u8 0, .bool false] rfl (by kernel_rfl) (by kernel_rfl) (by kernel_rfl)
   (OpenSpec.preRow_of_cond 8 hx (by kernel_rfl) (fun k hk => by cases hk) (by kernel_rfl) (laidMet_nil _ _))) ?_
 intro W base args ds gs before hval hW _ hcond hsz hL _ _
 exact contract H enc W base args ds gs before hval hW hsz
theorem said : Rows.PredNullsSaid :=
 OpenClaim.holds_of_cond 6 Try.f6 rfl rfl rfl rfl rfl rfl rfl ⟨rfl, rfl, rfl, rfl, rfl⟩ rfl rfl rfl rfl rfl (by kernel_rfl) Try.func6 (by kernel_rfl)
  (of_decide_eq_true (by kernel_rfl)) (by unfold Func.isWrapper; first | (rw [if_pos (by decide +kernel)]; kernel_rfl) | (rw [if_neg (by decide +kernel)]; exact ⟨rfl, rfl⟩))
  (fun os started H enc _ F => by rw [OpenClaim.pre_eq_preRow]; exact lifted os started H enc F)
#print axioms said
end Go.Proofs.Ytiicfblccklfhaa.predNulls
end
