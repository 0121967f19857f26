/- The law PredNulls: it returns true for every input, and what was handed in reads as before (part 4 of 8: texts written by this claim's programs and by hand, joined) -/
import Derived.Shelf.Abstract
import Derived.Deep.RegionHeld3
import Derived.Laws.EntriesVeiled
import Derived.Test.YtiicfblccklfhaaProg
import Derived.Below
import Derived.Deep.Draws
import Derived.Deep.AppendLies
import Derived.Maps.AppendAt
import Derived.OwnWalk
import Derived.Laws.BytesArg
import Derived.Laws.MakeOwn
import Derived.Laws.OwnMore
import Derived.Deep.OwnRows
import Derived.Tactics
import Derived.Lib.ConvBytes
import Derived.Laws.Slices
import Derived.WalkKit
import Derived.KernelRfl
import Derived.RowKit3
import Derived.Deep.LoopGhost
import Derived.Deep.QuietTactic
import Derived.BigQuiet
import Derived.WideLaws
import Derived.Deep.DeepCutAuto
import Derived.Deep.CutBlock
import Derived.Laws.Rows
import Derived.Lib.AppendStr
import Derived.ArgAppend
import Derived.Laws.IdiomCopy
import Derived.OrdersHeld
import Derived.Laws.BitsLemmas
import Derived.RowKit
import Derived.Test.YtiicfblccklfhaaPackN0
import Derived.Test.YtiicfblccklfhaaPackN1
import Derived.Test.YtiicfblccklfhaaPackN2
section
namespace Go.Proofs.Ytiicfblccklfhaa.Ext
open Go Go.Proofs Go.Lib Go.RowKit Go.Proofs.YtiicfblccklfhaaW.PrintWords Go.Proofs.YtiicfblccklfhaaW.PrintLast Go.Proofs.YtiicfblccklfhaaW.PrintMore Go.Proofs.Ytiicfblccklfhaa.PK Go.Proofs.Ytiicfblccklfhaa.PM
set_option linter.unusedVariables false
set_option maxRecDepth 100000
def placeP {α : Type} (p : α → Bool) : List α → Nat → Int
  | [], _ => -1
  | x :: l, n => if p x then n else placeP p l (n + 1)
theorem placeP_hit {α : Type} (p : α → Bool) (z : α) : ∀ (l : List α) (n k : Nat), k < l.length → (∀ j, j < k → p ((l[j]?).getD z) = false) → p ((l[k]?).getD z) = true → placeP p l n = ((n + k : Nat) : Int)
  | [], n, k, h, _, _ => absurd h (Nat.not_lt_zero _)
  | x :: l, n, 0, _, _, h => by simp at h; simp [placeP, h]
  | x :: l, n, k + 1, hk, hm, h => by
    have h0 := hm 0 (Nat.succ_pos _)
    simp at h0 h hk
    simp only [placeP, h0, Bool.false_eq_true, if_false]
    rw [placeP_hit p z l (n + 1) k hk (fun j hj => by simpa using hm (j + 1) (by omega)) h]
    congr 1; omega
theorem placeP_miss {α : Type} (p : α → Bool) (z : α) : ∀ (l : List α) (n : Nat), (∀ j, j < l.length → p ((l[j]?).getD z) = false) → placeP p l n = -1
  | [], n, _ => rfl
  | x :: l, n, h => by
    have h0 := h 0 (Nat.succ_pos _)
    simp at h0
    simp only [placeP, h0, Bool.false_eq_true, if_false]
    exact placeP_miss p z l (n + 1) (fun j hj => by simpa using h (j + 1) (by simpa using hj))
theorem placeP_any {α : Type} (p : α → Bool) : ∀ (l : List α) (n : Nat), decide (0 ≤ placeP p l n) = l.any p
  | [], n => rfl
  | x :: l, n => by
    cases h : p x with
    | true => simp [placeP, h]
    | false => simp only [placeP, h, Bool.false_eq_true, if_false, List.any_cons, Bool.false_or]; exact placeP_any p l (n + 1)
abbrev packTest (x : S28) : Value := .agg #[.string x.f0, .int .i64 x.f1, .int .i64 x.f2.f0, .int .i64 x.f2.f1, .string x.f2.f2, .bool x.f3, .bool x.f4]
set_option maxHeartbeats 8000000 in
/-- slices.IndexFunc over a slice of rabbet/api.Test. -/
theorem indexFunc_Test (p : S28 → Bool) (g : Nat) (lb : Array Value) (eg : ∀ args w, (callFunc g args).run Try.prog w = .ok (.enter g args) w) (A : Option Addr) (c : Nat) (xs : List S28) (w : World) (hC : Kd.C k28 w A xs.length xs)
    (hp : ∀ W x, Below w.heap.size w W → Calls Try.prog g (#[packTest x] ++ lb) W fun e w' => e = .returned (.bool (p x)) ∧ Below W.heap.size W w') :
    Calls Try.prog 44 #[.slice A xs.length c, .func (.func g) #[] lb] w fun e w' => e = .returned (.int .i64 (placeP p xs 0)) ∧ Below w.heap.size w w' := by
  have hbig : xs.length ≤ 9223372036854775807 := hC.2.1
  have HC := Aside0.mk hC
  clear hC
  have HP := Aside0.mk hp
  clear hp
  generalize hn : xs.length = n at HC hbig ⊢
  have HN := Aside0.mk hn
  clear hn
  generalize hR : placeP p xs 0 = R
  have HR := Aside0.mk hR
  clear hR
  go_enter Try.func44, Try.ntmps44
  go_wp2
  go_loopg [5, 8] n (fun gg _ s8 wr => ∃ kk : Nat, kk ≤ n ∧ n - kk ≤ gg ∧ s8 = .int .i64 kk ∧ Aside (Below w.heap.size w wr) ∧ Aside (∀ j, j < kk → p ((xs[j]?).getD z28) = false))
  case atStart => exact ⟨0, Nat.zero_le _, by omega, rfl, Below.refl _ w, fun j hj => absurd hj (Nat.not_lt_zero _)⟩
  case round =>
    obtain ⟨kk, hkk, hg, rfl, BW, A'⟩ := hrel
    by_cases hlt : kk < n
    · have hltz : (kk : Int) < (n : Int) := by omega
      obtain ⟨ad, rfl, c0, c1, c2, c3, c4, c5, c6⟩ := at_T28 (Kd.C_below HC.out BW.out) (kk : Int) (by omega) (by omega)
      have hcall := HP.out wr (rd_T28 xs kk) BW.out
      generalize hy : rd_T28 xs kk = y at hcall c0 c1 c2 c3 c4 c5 c6
      have HY : Aside0 (rd_T28 xs kk = y) := ⟨hy⟩
      clear hy
      simp only [Int.toNat_natCast] at c0 c1 c2 c3 c4 c5 c6
      have hq := HY.out
      rw [rd_T28, Int.toNat_natCast, List.getD_eq_getElem?_getD] at hq
      have HQ := Aside0.mk hq
      clear hq
      cases hq : p y with
      | true =>
        rw [hq] at hcall
        have HQ2 := Aside0.mk hq
        clear hq
        go_wp2_with (go_at_fn g; refine hcall.mono ?_; rintro e w' ⟨rfl, hb'⟩)
        go_ret
        refine ⟨?_, BW.out.trans (hb'.mono BW.out.size)⟩
        rw [← HR.out, placeP_hit p z28 xs 0 kk (by have := HN.out; omega) A'.out (by rw [HQ.out]; exact HQ2.out)]
        simp
      | false =>
        rw [hq] at hcall
        have HQ2 := Aside0.mk hq
        clear hq
        go_wp2_with (go_at_fn g; refine hcall.mono ?_; rintro e w' ⟨rfl, hb'⟩)
        go_roundg (n - (kk + 1))
        case measure => omega
        case rel =>
          refine ⟨kk + 1, by omega, by omega, by go_num, BW.out.trans (hb'.mono BW.out.size), (show Aside _ from fun j hj => ?_)⟩
          by_cases e : j = kk
          · subst e
            rw [HQ.out]; exact HQ2.out
          · exact A'.out j (by omega)
    · have hltz : ¬ (kk : Int) < (n : Int) := by omega
      have : kk = n := by omega
      subst this
      go_wp2
      go_ret
      refine ⟨?_, BW.out⟩
      rw [← HR.out, placeP_miss p z28 xs 0 (fun j hj => A'.out j (by have := HN.out; omega))]
      rfl
set_option maxHeartbeats 8000000 in
/-- slices.ContainsFunc over a slice of rabbet/api.Test. -/
theorem containsFunc_Test (p : S28 → Bool) (g : Nat) (lb : Array Value) (eg : ∀ args w, (callFunc g args).run Try.prog w = .ok (.enter g args) w) (A : Option Addr) (c : Nat) (xs : List S28) (w : World) (hC : Kd.C k28 w A xs.length xs)
    (hp : ∀ W x, Below w.heap.size w W → Calls Try.prog g (#[packTest x] ++ lb) W fun e w' => e = .returned (.bool (p x)) ∧ Below W.heap.size W w') :
    Calls Try.prog 28 #[.slice A xs.length c, .func (.func g) #[] lb] w fun e w' => e = .returned (.bool (xs.any p)) ∧ Below w.heap.size w w' := by
  have hcon := indexFunc_Test p g lb eg A c xs w hC hp
  rw [← placeP_any p xs 0]
  clear hC hp eg
  generalize placeP p xs 0 = R at hcon ⊢
  generalize xs.length = n at hcon ⊢
  go_enter Try.func28, Try.ntmps28
  go_wp2_with (go_at_call 44; refine hcon.mono ?_; rintro e w' ⟨rfl, hb'⟩)
  go_ret
  exact ⟨rfl, hb'⟩
abbrev Tst := S28
def mayV (x : S26) : Bool := (value_May.f x.f0 x.f1 x.f2).getD false
theorem may_is (x : S26) : value_May.f x.f0 x.f1 x.f2 = some (mayV x) := by
  unfold mayV
  have : ∃ b, value_May.f x.f0 x.f1 x.f2 = some b := by
    unfold value_May.f
    repeat' first
      | exact ⟨_, rfl⟩
      | split
  obtain ⟨b, h⟩ := this
  rw [h]; rfl
def badT (x : Tst) : Bool := decide (x.f1 < 1) || (decide (8 < x.f1) || !mayV x.f2)
set_option maxHeartbeats 2000000 in
theorem bad_lit (x : Tst) (w : World) :
    Calls Try.prog 26 #[packTest x] w fun e w' => e = .returned (.bool (badT x)) ∧ Below w.heap.size w w' := by
  have hb1 := (Below.refl w.heap.size w).alloc (Nat.le_refl _) (.cells #[.string x.f0, .int .i64 x.f1, .int .i64 x.f2.f0, .int .i64 x.f2.f1, .string x.f2.f2, .bool x.f3, .bool x.f4] 28)
  have hm := value_May.calls x.f2.f0 x.f2.f1 x.f2.f2 (mayV x.f2) (w.alloc (.cells #[.string x.f0, .int .i64 x.f1, .int .i64 x.f2.f0, .int .i64 x.f2.f1, .string x.f2.f2, .bool x.f3, .bool x.f4] 28)) (may_is x.f2)
  unfold badT
  have HB := Aside0.mk hb1
  clear hb1
  generalize mayV x.f2 = b at hm ⊢
  by_cases h1 : x.f1 < 1
  · go_enter Try.func26, Try.ntmps26
    go_wp2
    go_ret
    exact ⟨by simp [h1], HB.out⟩
  · by_cases h2 : 8 < x.f1
    · go_enter Try.func26, Try.ntmps26
      go_wp2
      go_ret
      exact ⟨by simp, HB.out⟩
    · go_enter Try.func26, Try.ntmps26
      go_wp2_with (go_at_call 27; refine hm.mono ?_; rintro e w' ⟨rfl, hb'⟩)
      go_ret
      exact ⟨by rw [decide_eq_false (show ¬ x.f1 < 1 by omega), decide_eq_false (show ¬ 8 < x.f1 by omega)]; rfl, HB.out.trans (hb'.mono HB.out.size)⟩
theorem placeOf_range (name : ByteArray) : ∀ (l : List Col) (n : Nat), placeOf name l n = -1 ∨ ((n : Int) ≤ placeOf name l n ∧ placeOf name l n < ((n + l.length : Nat) : Int))
  | [], n => .inl rfl
  | x :: l, n => by
    unfold placeOf
    split
    · right; simp; omega
    · rcases placeOf_range name l (n + 1) with h | h
      · exact .inl h
      · right; simp only [List.length_cons]; omega
def checkL (cols : List Col) : List Tst → Int
  | [] => 0
  | t :: l => if placeOf t.f0 cols 0 < 0 then 3 else if t.f2.f0 = 0 ∨ t.f1 = 7 ∨ t.f1 = 8 then checkL cols l
    else if decide (t.f2.f0 = 4) != decide ((rd_T64 cols (placeOf t.f0 cols 0)).f2 = 4) then 4 else checkL cols l
def checkV (cols : List Col) (l : List Tst) : Int := if 8 < l.length ∨ l.any badT then 1 else checkL cols l
def pred_Check.f (l0_0 : List Col) (a0_1 : Int) (l1 : List Tst) : Option Int := some (checkV l0_0 l1)
theorem asks_calls (x : Tst) (w : World) :
    Calls Try.prog 30 #[packTest x] w fun e w' => e = .returned (.bool (decide (x.f1 = 7) || decide (x.f1 = 8))) ∧ Below w.heap.size w w' := by
  have hb1 := (Below.refl w.heap.size w).alloc (Nat.le_refl _) (.cells #[.string x.f0, .int .i64 x.f1, .int .i64 x.f2.f0, .int .i64 x.f2.f1, .string x.f2.f2, .bool x.f3, .bool x.f4] 28)
  have HB := Aside0.mk hb1
  clear hb1
  by_cases h1 : x.f1 = 7
  · rw [h1] at HB
    go_enter Try.func30, Try.ntmps30
    go_wp2
    go_ret
    exact ⟨by simp [h1], HB.out⟩
  · go_enter Try.func30, Try.ntmps30
    go_wp2
    go_ret
    exact ⟨rfl, HB.out⟩
set_option maxHeartbeats 4000000 in
theorem pred_Check.calls (A0_0 : Option Addr) (c0_0 : Nat) (l0_0 : List Col) (a0_1 : Int) (A1 : Option Addr) (c1 : Nat) (l1 : List Tst) (r : Int) (w : World) (hr0_0 : Kd.C k64 w A0_0 l0_0.length l0_0) (hc0_0 : l0_0.length ≤ c0_0) (hr1 : Kd.C k28 w A1 l1.length l1) (hc1 : l1.length ≤ c1) (h : pred_Check.f l0_0 a0_1 l1 = some r) :
    Calls Try.prog 13 #[.agg #[.slice A0_0 l0_0.length c0_0, .int .i64 a0_1], .slice A1 l1.length c1] w fun e w' => e = .returned (.int .i64 r) ∧ Below w.heap.size w w' := by
  obtain rfl := Option.some.inj h
  clear h
  have eg : ∀ args w, (callFunc 26 args).run Try.prog w = .ok (.enter 26 args) w := enters_of Try.func26 (by kernel_rfl) rfl
  have hb1 : Below w.heap.size w (w.alloc (.cells #[.slice A0_0 l0_0.length c0_0, .int .i64 a0_1] 33)) := (Below.refl _ w).alloc (Nat.le_refl _) _
  have hcon := containsFunc_Test badT 26 #[] eg A1 c1 l1 _ (Kd.C_below hr1 hb1) (fun W x hb => bad_lit x W)
  have hbig : l1.length ≤ 9223372036854775807 := hr1.2.1
  have HB1 := Aside0.mk hb1
  have HC0 := Aside0.mk hr0_0
  have HC1 := Aside0.mk hr1
  clear hb1 hr0_0 hr1 eg
  unfold checkV
  by_cases h8 : 8 < l1.length
  · rw [if_pos (.inl h8)]
    have h8' : (8 : Int) < (l1.length : Int) := by omega
    clear hcon
    go_enter Try.func13, Try.ntmps13
    go_wp2
    go_ret
    exact ⟨rfl, HB1.out⟩
  · have h8' : ¬ (8 : Int) < (l1.length : Int) := by omega
    cases hb : l1.any badT with
    | true =>
      rw [if_pos (.inr rfl)]
      rw [hb] at hcon
      clear hb
      go_enter Try.func13, Try.ntmps13
      go_wp2_with (go_at_call 28; refine hcon.mono ?_; rintro e w' ⟨rfl, hb'⟩)
      go_ret
      exact ⟨rfl, HB1.out.trans (hb'.mono HB1.out.size)⟩
    | false =>
      rw [if_neg (by simp [h8])]
      rw [hb] at hcon
      clear hb
      generalize hR : checkL l0_0 l1 = R
      have HR := Aside0.mk hR
      clear hR
      generalize hn : l1.length = n at hcon hbig h8 h8' hc1 HC1 ⊢
      have HN := Aside0.mk hn
      clear hn
      go_enter Try.func13, Try.ntmps13
      go_wp2_with (go_at_call 28; refine hcon.mono ?_; rintro e w' ⟨rfl, hb'⟩)
      have hb2 := HB1.out.trans (hb'.mono HB1.out.size)
      have hs0 : w'.cell? ⟨w.heap.size, 0, none⟩ = some (.slice A0_0 l0_0.length c0_0) := (hb'.cell (p := ⟨w.heap.size, 0, none⟩) (by simp)).trans (by simp)
      have hs1 : w'.cell? ⟨w.heap.size, 1, none⟩ = some (.int .i64 a0_1) := (hb'.cell (p := ⟨w.heap.size, 1, none⟩) (by simp)).trans (by simp)
      have hlt : w.heap.size < w'.heap.size := Nat.lt_of_lt_of_le (by simp) hb'.size
      have HB2 := Aside0.mk hb2
      have HS0 := Aside0.mk hs0
      have HS1 := Aside0.mk hs1
      have HLT := Aside0.mk hlt
      clear hb2 hs0 hs1 hb' hcon hlt
      go_loopg [19] n (fun gg s19 wr => ∃ kk : Nat, kk ≤ n ∧ n - kk ≤ gg ∧ s19 = .int .i64 kk ∧ Aside0 (Below w'.heap.size w' wr) ∧ Aside0 (checkL l0_0 (l1.drop kk) = R))
      case atStart => exact ⟨0, Nat.zero_le _, by omega, rfl, ⟨Below.refl _ _⟩, ⟨by simpa using HR.out⟩⟩
      case round =>
        obtain ⟨kk, hkk, hg, rfl, BW, HK⟩ := hrel
        by_cases hlt : kk < n
        · have hltz : (kk : Int) < (n : Int) := by omega
          obtain ⟨ad, rfl, c0, c1, c2, c3, c4, c5, c6⟩ := at_T28 (Kd.C_below HC1.out (HB2.out.trans (BW.out.mono HB2.out.size))) (kk : Int) (by omega) (by omega)
          generalize hy : rd_T28 l1 kk = y at c0 c1 c2 c3 c4 c5 c6
          have HY : Aside0 (rd_T28 l1 kk = y) := ⟨hy⟩
          clear hy
          simp only [Int.toNat_natCast] at c0 c1 c2 c3 c4 c5 c6
          have hs0 := (BW.out.cell (p := ⟨w.heap.size, 0, none⟩) HLT.out).trans HS0.out
          have hs1 := (BW.out.cell (p := ⟨w.heap.size, 1, none⟩) HLT.out).trans HS1.out
          have hLT := Nat.lt_of_lt_of_le HLT.out BW.out.size
          have hne : ¬ w.heap.size = wr.heap.size := by omega
          have hbA : Below wr.heap.size wr (wr.alloc (.cells #[.string y.f0, .int .i64 y.f1, .int .i64 y.f2.f0, .int .i64 y.f2.f1, .string y.f2.f2, .bool y.f3, .bool y.f4] 28)) := (Below.refl _ wr).alloc (Nat.le_refl _) _
          have hW := HB2.out.trans (BW.out.mono HB2.out.size)
          have hWA := hW.trans (hbA.mono hW.size)
          have hfind := pred_find.calls A0_0 c0_0 l0_0 a0_1 y.f0 (placeOf y.f0 l0_0 0) _ (Kd.C_below HC0.out hWA) hc0_0 rfl
          have hdrop : l1.drop kk = y :: l1.drop (kk + 1) := by
            have hk : kk < l1.length := by have := HN.out; omega
            rw [List.drop_eq_getElem_cons hk]
            congr 1
            rw [← HY.out, rd_T28, Int.toNat_natCast, List.getD_eq_getElem?_getD, List.getElem?_eq_getElem hk]
            rfl
          have HD := HK.out
          rw [hdrop] at HD
          unfold checkL at HD
          have hrange := placeOf_range y.f0 l0_0 0
          generalize hP : placeOf y.f0 l0_0 0 = P at hfind HD hrange
          have HBA := Aside0.mk hbA
          have HS0w := Aside0.mk hs0
          have HS1w := Aside0.mk hs1
          have HWA := Aside0.mk hW
          clear hbA hW hWA hdrop hP HK
          by_cases hp : P < 0
          · rw [if_pos hp] at HD
            clear hrange
            subst HD
            go_wp2_with (first | (go_at_call 29; refine hfind.mono ?_; rintro e w2 ⟨rfl, hb2'⟩; have d0 : w2.cell? ⟨wr.heap.size, 0, none⟩ = some (.string y.f0) := (hb2'.cell (p := ⟨wr.heap.size, 0, none⟩) (by simp)).trans (by simp); have d1 : w2.cell? ⟨wr.heap.size, 1, none⟩ = some (.int .i64 y.f1) := (hb2'.cell (p := ⟨wr.heap.size, 1, none⟩) (by simp)).trans (by simp); have d2 : w2.cell? ⟨wr.heap.size, 2, none⟩ = some (.int .i64 y.f2.f0) := (hb2'.cell (p := ⟨wr.heap.size, 2, none⟩) (by simp)).trans (by simp); have d3 : w2.cell? ⟨wr.heap.size, 3, none⟩ = some (.int .i64 y.f2.f1) := (hb2'.cell (p := ⟨wr.heap.size, 3, none⟩) (by simp)).trans (by simp); have d4 : w2.cell? ⟨wr.heap.size, 4, none⟩ = some (.string y.f2.f2) := (hb2'.cell (p := ⟨wr.heap.size, 4, none⟩) (by simp)).trans (by simp); have d5 : w2.cell? ⟨wr.heap.size, 5, none⟩ = some (.bool y.f3) := (hb2'.cell (p := ⟨wr.heap.size, 5, none⟩) (by simp)).trans (by simp); have d6 : w2.cell? ⟨wr.heap.size, 6, none⟩ = some (.bool y.f4) := (hb2'.cell (p := ⟨wr.heap.size, 6, none⟩) (by simp)).trans (by simp); have f0 : w2.cell? ⟨w.heap.size, 0, none⟩ = some (.slice A0_0 l0_0.length c0_0) := (hb2'.cell (p := ⟨w.heap.size, 0, none⟩) (Nat.lt_of_lt_of_le hLT (by simp))).trans ((HBA.out.cell (p := ⟨w.heap.size, 0, none⟩) hLT).trans HS0w.out); have f1 : w2.cell? ⟨w.heap.size, 1, none⟩ = some (.int .i64 a0_1) := (hb2'.cell (p := ⟨w.heap.size, 1, none⟩) (Nat.lt_of_lt_of_le hLT (by simp))).trans ((HBA.out.cell (p := ⟨w.heap.size, 1, none⟩) hLT).trans HS1w.out); have hb2k := Aside0.mk (HBA.out.trans (hb2'.mono HBA.out.size))))
            go_ret
            exact ⟨rfl, HWA.out.trans (hb2k.out.mono HWA.out.size)⟩
          · rw [if_neg hp] at HD
            have hr := hrange.resolve_left (by omega)
            clear hrange
            by_cases hz : y.f2.f0 = 0
            · rw [if_pos (.inl hz)] at HD
              have HD' := Aside0.mk HD
              have HZ := Aside0.mk hz
              clear HD hz
              go_wp2_with (first | (go_at_call 29; refine hfind.mono ?_; rintro e w2 ⟨rfl, hb2'⟩; have d0 : w2.cell? ⟨wr.heap.size, 0, none⟩ = some (.string y.f0) := (hb2'.cell (p := ⟨wr.heap.size, 0, none⟩) (by simp)).trans (by simp); have d1 : w2.cell? ⟨wr.heap.size, 1, none⟩ = some (.int .i64 y.f1) := (hb2'.cell (p := ⟨wr.heap.size, 1, none⟩) (by simp)).trans (by simp); have d2 : w2.cell? ⟨wr.heap.size, 2, none⟩ = some (.int .i64 y.f2.f0) := (hb2'.cell (p := ⟨wr.heap.size, 2, none⟩) (by simp)).trans (by simp); have d3 : w2.cell? ⟨wr.heap.size, 3, none⟩ = some (.int .i64 y.f2.f1) := (hb2'.cell (p := ⟨wr.heap.size, 3, none⟩) (by simp)).trans (by simp); have d4 : w2.cell? ⟨wr.heap.size, 4, none⟩ = some (.string y.f2.f2) := (hb2'.cell (p := ⟨wr.heap.size, 4, none⟩) (by simp)).trans (by simp); have d5 : w2.cell? ⟨wr.heap.size, 5, none⟩ = some (.bool y.f3) := (hb2'.cell (p := ⟨wr.heap.size, 5, none⟩) (by simp)).trans (by simp); have d6 : w2.cell? ⟨wr.heap.size, 6, none⟩ = some (.bool y.f4) := (hb2'.cell (p := ⟨wr.heap.size, 6, none⟩) (by simp)).trans (by simp); have f0 : w2.cell? ⟨w.heap.size, 0, none⟩ = some (.slice A0_0 l0_0.length c0_0) := (hb2'.cell (p := ⟨w.heap.size, 0, none⟩) (Nat.lt_of_lt_of_le hLT (by simp))).trans ((HBA.out.cell (p := ⟨w.heap.size, 0, none⟩) hLT).trans HS0w.out); have f1 : w2.cell? ⟨w.heap.size, 1, none⟩ = some (.int .i64 a0_1) := (hb2'.cell (p := ⟨w.heap.size, 1, none⟩) (Nat.lt_of_lt_of_le hLT (by simp))).trans ((HBA.out.cell (p := ⟨w.heap.size, 1, none⟩) hLT).trans HS1w.out); have hb2k := Aside0.mk (HBA.out.trans (hb2'.mono HBA.out.size)); have hz := HZ.out))
              go_roundg (n - (kk + 1))
              case measure => omega
              case rel => exact ⟨kk + 1, by omega, by omega, by go_num, ⟨BW.out.trans (hb2k.out.mono BW.out.size)⟩, HD'⟩
            · by_cases h7 : y.f1 = 7 ∨ y.f1 = 8
              · rw [if_pos (.inr h7)] at HD
                have HD' := Aside0.mk HD
                have HZ := Aside0.mk hz
                have H7 : Aside0 ((decide (y.f1 = 7) || decide (y.f1 = 8)) = true) := ⟨by simpa using h7⟩
                clear HD hz h7
                go_wp2_with (first | (go_at_call 29; refine hfind.mono ?_; rintro e w2 ⟨rfl, hb2'⟩; have d0 : w2.cell? ⟨wr.heap.size, 0, none⟩ = some (.string y.f0) := (hb2'.cell (p := ⟨wr.heap.size, 0, none⟩) (by simp)).trans (by simp); have d1 : w2.cell? ⟨wr.heap.size, 1, none⟩ = some (.int .i64 y.f1) := (hb2'.cell (p := ⟨wr.heap.size, 1, none⟩) (by simp)).trans (by simp); have d2 : w2.cell? ⟨wr.heap.size, 2, none⟩ = some (.int .i64 y.f2.f0) := (hb2'.cell (p := ⟨wr.heap.size, 2, none⟩) (by simp)).trans (by simp); have d3 : w2.cell? ⟨wr.heap.size, 3, none⟩ = some (.int .i64 y.f2.f1) := (hb2'.cell (p := ⟨wr.heap.size, 3, none⟩) (by simp)).trans (by simp); have d4 : w2.cell? ⟨wr.heap.size, 4, none⟩ = some (.string y.f2.f2) := (hb2'.cell (p := ⟨wr.heap.size, 4, none⟩) (by simp)).trans (by simp); have d5 : w2.cell? ⟨wr.heap.size, 5, none⟩ = some (.bool y.f3) := (hb2'.cell (p := ⟨wr.heap.size, 5, none⟩) (by simp)).trans (by simp); have d6 : w2.cell? ⟨wr.heap.size, 6, none⟩ = some (.bool y.f4) := (hb2'.cell (p := ⟨wr.heap.size, 6, none⟩) (by simp)).trans (by simp); have f0 : w2.cell? ⟨w.heap.size, 0, none⟩ = some (.slice A0_0 l0_0.length c0_0) := (hb2'.cell (p := ⟨w.heap.size, 0, none⟩) (Nat.lt_of_lt_of_le hLT (by simp))).trans ((HBA.out.cell (p := ⟨w.heap.size, 0, none⟩) hLT).trans HS0w.out); have f1 : w2.cell? ⟨w.heap.size, 1, none⟩ = some (.int .i64 a0_1) := (hb2'.cell (p := ⟨w.heap.size, 1, none⟩) (Nat.lt_of_lt_of_le hLT (by simp))).trans ((HBA.out.cell (p := ⟨w.heap.size, 1, none⟩) hLT).trans HS1w.out); have hb2k := Aside0.mk (HBA.out.trans (hb2'.mono HBA.out.size)); have hz := HZ.out) | (go_at_call 30; refine (asks_calls y _).mono ?_; rintro e w3 ⟨rfl, hb3'⟩; have g2 : w3.cell? ⟨wr.heap.size, 2, none⟩ = some (.int .i64 y.f2.f0) := (hb3'.cell (p := ⟨wr.heap.size, 2, none⟩) (Nat.lt_of_lt_of_le (by simp) hb2'.size)).trans d2; have g0 : w3.cell? ⟨w.heap.size, 0, none⟩ = some (.slice A0_0 l0_0.length c0_0) := (hb3'.cell (p := ⟨w.heap.size, 0, none⟩) (Nat.lt_of_lt_of_le hLT hb2k.out.size)).trans f0; have hb3k := Aside0.mk (hb2k.out.trans (hb3'.mono hb2k.out.size)); rw [H7.out]))
                go_roundg (n - (kk + 1))
                case measure => omega
                case rel => exact ⟨kk + 1, by omega, by omega, by go_num, ⟨BW.out.trans (hb3k.out.mono BW.out.size)⟩, HD'⟩
              · rw [if_neg (by simp [hz]; omega)] at HD
                have HZ := Aside0.mk hz
                have H7 : Aside0 ((decide (y.f1 = 7) || decide (y.f1 = 8)) = false) := ⟨by simp; omega⟩
                have HD' := Aside0.mk HD
                clear HD hz h7
                go_wp2_with (first | (go_at_call 29; refine hfind.mono ?_; rintro e w2 ⟨rfl, hb2'⟩; have d0 : w2.cell? ⟨wr.heap.size, 0, none⟩ = some (.string y.f0) := (hb2'.cell (p := ⟨wr.heap.size, 0, none⟩) (by simp)).trans (by simp); have d1 : w2.cell? ⟨wr.heap.size, 1, none⟩ = some (.int .i64 y.f1) := (hb2'.cell (p := ⟨wr.heap.size, 1, none⟩) (by simp)).trans (by simp); have d2 : w2.cell? ⟨wr.heap.size, 2, none⟩ = some (.int .i64 y.f2.f0) := (hb2'.cell (p := ⟨wr.heap.size, 2, none⟩) (by simp)).trans (by simp); have d3 : w2.cell? ⟨wr.heap.size, 3, none⟩ = some (.int .i64 y.f2.f1) := (hb2'.cell (p := ⟨wr.heap.size, 3, none⟩) (by simp)).trans (by simp); have d4 : w2.cell? ⟨wr.heap.size, 4, none⟩ = some (.string y.f2.f2) := (hb2'.cell (p := ⟨wr.heap.size, 4, none⟩) (by simp)).trans (by simp); have d5 : w2.cell? ⟨wr.heap.size, 5, none⟩ = some (.bool y.f3) := (hb2'.cell (p := ⟨wr.heap.size, 5, none⟩) (by simp)).trans (by simp); have d6 : w2.cell? ⟨wr.heap.size, 6, none⟩ = some (.bool y.f4) := (hb2'.cell (p := ⟨wr.heap.size, 6, none⟩) (by simp)).trans (by simp); have f0 : w2.cell? ⟨w.heap.size, 0, none⟩ = some (.slice A0_0 l0_0.length c0_0) := (hb2'.cell (p := ⟨w.heap.size, 0, none⟩) (Nat.lt_of_lt_of_le hLT (by simp))).trans ((HBA.out.cell (p := ⟨w.heap.size, 0, none⟩) hLT).trans HS0w.out); have f1 : w2.cell? ⟨w.heap.size, 1, none⟩ = some (.int .i64 a0_1) := (hb2'.cell (p := ⟨w.heap.size, 1, none⟩) (Nat.lt_of_lt_of_le hLT (by simp))).trans ((HBA.out.cell (p := ⟨w.heap.size, 1, none⟩) hLT).trans HS1w.out); have hb2k := Aside0.mk (HBA.out.trans (hb2'.mono HBA.out.size)); have hz := HZ.out) | (go_at_call 30; refine (asks_calls y _).mono ?_; rintro e w3 ⟨rfl, hb3'⟩; have g2 : w3.cell? ⟨wr.heap.size, 2, none⟩ = some (.int .i64 y.f2.f0) := (hb3'.cell (p := ⟨wr.heap.size, 2, none⟩) (Nat.lt_of_lt_of_le (by simp) hb2'.size)).trans d2; have g0 : w3.cell? ⟨w.heap.size, 0, none⟩ = some (.slice A0_0 l0_0.length c0_0) := (hb3'.cell (p := ⟨w.heap.size, 0, none⟩) (Nat.lt_of_lt_of_le hLT hb2k.out.size)).trans f0; have hb3k := Aside0.mk (hb2k.out.trans (hb3'.mono hb2k.out.size)); rw [H7.out]))
                have hcol := Kd.C_below HC0.out (HWA.out.trans (hb3k.out.mono HWA.out.size))
                clear hfind HBA
                have hP1 : P < (l0_0.length : Int) := by omega
                obtain ⟨ad2, rfl, e0, e1, e2⟩ := at_T64 hcol P (by omega) hP1
                generalize hc : (rd_T64 l0_0 P).f2 = ct at e2 HD'
                have HCT := Aside0.mk hc
                clear hc e0 e1 hcol c0 c1 c2 c3 c4 c5 c6 d0 d1 d2 d3 d4 d5 d6 f0 f1 hs0 hs1 hr
                by_cases hq : (decide (y.f2.f0 = 4) != decide (ct = 4)) = true
                · have HD2 := HD'.out
                  rw [if_pos hq] at HD2
                  subst HD2
                  have hq' : ((y.f2.f0 == 4) == (ct == 4)) = false := by
                    have : ((decide (y.f2.f0 = 4)) == (decide (ct = 4))) = false := by simpa [bne] using hq
                    exact this
                  clear hq HD'
                  go_quiet (fail)
                  go_wp2
                  go_ret
                  exact ⟨rfl, HWA.out.trans ((hb3k.out.trans ((Drawn0.below ⟨⟨_, rfl⟩⟩).mono hb3k.out.size)).mono HWA.out.size)⟩
                · have HD2 := HD'.out
                  rw [if_neg hq] at HD2
                  have HD3 := Aside0.mk HD2
                  have hq' : ((y.f2.f0 == 4) == (ct == 4)) = true := by
                    have : ((decide (y.f2.f0 = 4)) == (decide (ct = 4))) = true := by simpa [bne] using hq
                    exact this
                  clear hq HD' HD2
                  go_quiet (fail)
                  go_wp2
                  go_roundg (n - (kk + 1))
                  case measure => omega
                  case rel => exact ⟨kk + 1, by omega, by omega, by go_num, ⟨BW.out.trans ((hb3k.out.trans ((Drawn0.below ⟨⟨_, rfl⟩⟩).mono hb3k.out.size)).mono BW.out.size)⟩, HD3⟩
        · have hltz : ¬ (kk : Int) < (n : Int) := by omega
          have : kk = n := by omega
          subst this
          have HD := HK.out
          rw [List.drop_of_length_le (by have := HN.out; omega)] at HD
          unfold checkL at HD
          subst HD
          go_wp2
          go_ret
          exact ⟨rfl, HB2.out.trans (BW.out.mono HB2.out.size)⟩
end Go.Proofs.Ytiicfblccklfhaa.Ext
end
section
namespace Go.Proofs.Ytiicfblccklfhaa.Ext
open Go Go.Proofs Go.Lib Go.RowKit Go.Proofs.YtiicfblccklfhaaW.PrintWords Go.Proofs.YtiicfblccklfhaaW.PrintLast Go.Proofs.YtiicfblccklfhaaW.PrintMore Go.Proofs.Ytiicfblccklfhaa.PK Go.Proofs.Ytiicfblccklfhaa.PM Go.Proofs.Ytiicfblccklfhaa.PG
set_option linter.unusedVariables false
set_option maxRecDepth 100000
abbrev Zn := S50
def zcan (z : Zn) (n : Int) (x : Tst) : Bool := (zone_Can.f 9 z.f0 z.f1.f0 z.f1.f1 z.f1.f2 z.f2.f0 z.f2.f1 z.f2.f2 n x.f1 x.f2.f0 x.f2.f1 x.f2.f2).getD false
theorem compare_is (t i : Int) (s : ByteArray) (t' i' : Int) (s' : ByteArray) : ∃ b, value_Compare.f 8 t i s t' i' s' = some b := by
  unfold value_Compare.f value_rank.f cmp_Compare_int.f cmp_isNaN_int.f
  repeat' first
    | exact ⟨_, rfl⟩
    | simp only [Option.bind_some]
    | split
    | (unfold value_Compare.j0 cmp_Compare_int64.f cmp_isNaN_int64.f strings_Compare.f; simp only [Option.bind_some])
theorem zcan_is (z : Zn) (n : Int) (x : Tst) : zone_Can.f 9 z.f0 z.f1.f0 z.f1.f1 z.f1.f2 z.f2.f0 z.f2.f1 z.f2.f2 n x.f1 x.f2.f0 x.f2.f1 x.f2.f2 = some (zcan z n x) := by
  have : ∃ b, zone_Can.f 9 z.f0 z.f1.f0 z.f1.f1 z.f1.f2 z.f2.f0 z.f2.f1 z.f2.f2 n x.f1 x.f2.f0 x.f2.f1 x.f2.f2 = some b := by
    unfold zone_Can.f
    obtain ⟨b1, h1⟩ := compare_is z.f1.f0 z.f1.f1 z.f1.f2 x.f2.f0 x.f2.f1 x.f2.f2
    obtain ⟨b2, h2⟩ := compare_is z.f2.f0 z.f2.f1 z.f2.f2 x.f2.f0 x.f2.f1 x.f2.f2
    unfold zone_Can.j0
    simp only [h1, h2, Option.bind_some, if_true]
    repeat' first
      | exact ⟨_, rfl⟩
      | split
  obtain ⟨b, h⟩ := this
  unfold zcan
  rw [h]; rfl
def neverV (cols : List Col) (n : Int) (zs : List Zn) (x : Tst) : Bool :=
  !x.f4 && (decide (0 ≤ placeOf x.f0 cols 0) && (decide (placeOf x.f0 cols 0 < zs.length) && !zcan (rd_T50 zs (placeOf x.f0 cols 0)) n x))
set_option maxHeartbeats 8000000 in
theorem never_lit (x : Tst) (B1 B2 B3 : Nat) (A0 : Option Addr) (c0 : Nat) (l0 : List Col) (la : Int) (Az : Option Addr) (cz : Nat) (zs : List Zn) (n : Int) (w : World)
    (hC : Kd.C k64 w A0 l0.length l0) (hc0 : l0.length ≤ c0) (hZ : Kd.C k50 w Az zs.length zs)
    (h10 : w.cell? ⟨B1, 0, none⟩ = some (.slice A0 l0.length c0)) (h11 : w.cell? ⟨B1, 1, none⟩ = some (.int .i64 la)) (h2 : w.cell? ⟨B2, 0, none⟩ = some (.slice Az zs.length cz)) (h3 : w.cell? ⟨B3, 0, none⟩ = some (.int .i64 n))
    (hB1 : B1 < w.heap.size) (hB2 : B2 < w.heap.size) (hB3 : B3 < w.heap.size) :
    Calls Try.prog 37 #[packTest x, .pointer (some ⟨B1, 0, none⟩), .pointer (some ⟨B2, 0, none⟩), .pointer (some ⟨B3, 0, none⟩)] w fun e w' => e = .returned (.bool (neverV l0 n zs x)) ∧ Below w.heap.size w w' := by
  have hn1 : B1 ≠ w.heap.size := by omega
  have hn2 : B2 ≠ w.heap.size := by omega
  have hn3 : B3 ≠ w.heap.size := by omega
  have hbA := (Below.refl w.heap.size w).alloc (Nat.le_refl _) (.cells #[.string x.f0, .int .i64 x.f1, .int .i64 x.f2.f0, .int .i64 x.f2.f1, .string x.f2.f2, .bool x.f3, .bool x.f4] 28)
  have hfind := pred_find.calls A0 c0 l0 la x.f0 (placeOf x.f0 l0 0) _ (Kd.C_below hC hbA) hc0 rfl
  unfold neverV
  generalize placeOf x.f0 l0 0 = P at hfind ⊢
  have HBA := Aside0.mk hbA
  have HZ := Aside0.mk hZ
  have H10 := Aside0.mk h10
  have H11 := Aside0.mk h11
  have H2 := Aside0.mk h2
  have H3 := Aside0.mk h3
  clear hbA hC hZ
  have HV : Aside0 (∀ r, (!x.f4 && (decide (0 ≤ P) && (decide (P < zs.length) && !zcan (rd_T50 zs P) n x))) = r → (!x.f4 && (decide (0 ≤ P) && (decide (P < zs.length) && !zcan (rd_T50 zs P) n x))) = r) := ⟨fun _ h => h⟩
  generalize hV : (!x.f4 && (decide (0 ≤ P) && (decide (P < zs.length) && !zcan (rd_T50 zs P) n x))) = V
  have HVV := Aside0.mk hV
  clear hV HV
  go_enter Try.func37, Try.ntmps37
  go_wp2_with (first | (go_at_call 29; refine hfind.mono ?_; rintro e w2 ⟨rfl, hb2'⟩; have d0 : w2.cell? ⟨w.heap.size, 0, none⟩ = some (.string x.f0) := (hb2'.cell (p := ⟨w.heap.size, 0, none⟩) (by simp)).trans (by simp); have d1 : w2.cell? ⟨w.heap.size, 1, none⟩ = some (.int .i64 x.f1) := (hb2'.cell (p := ⟨w.heap.size, 1, none⟩) (by simp)).trans (by simp); have d2 : w2.cell? ⟨w.heap.size, 2, none⟩ = some (.int .i64 x.f2.f0) := (hb2'.cell (p := ⟨w.heap.size, 2, none⟩) (by simp)).trans (by simp); have d3 : w2.cell? ⟨w.heap.size, 3, none⟩ = some (.int .i64 x.f2.f1) := (hb2'.cell (p := ⟨w.heap.size, 3, none⟩) (by simp)).trans (by simp); have d4 : w2.cell? ⟨w.heap.size, 4, none⟩ = some (.string x.f2.f2) := (hb2'.cell (p := ⟨w.heap.size, 4, none⟩) (by simp)).trans (by simp); have d5 : w2.cell? ⟨w.heap.size, 5, none⟩ = some (.bool x.f3) := (hb2'.cell (p := ⟨w.heap.size, 5, none⟩) (by simp)).trans (by simp); have d6 : w2.cell? ⟨w.heap.size, 6, none⟩ = some (.bool x.f4) := (hb2'.cell (p := ⟨w.heap.size, 6, none⟩) (by simp)).trans (by simp); have f2 : w2.cell? ⟨B2, 0, none⟩ = some (.slice Az zs.length cz) := (hb2'.cell (p := ⟨B2, 0, none⟩) (Nat.lt_of_lt_of_le hB2 (by simp))).trans ((HBA.out.cell (p := ⟨B2, 0, none⟩) hB2).trans H2.out); have f3 : w2.cell? ⟨B3, 0, none⟩ = some (.int .i64 n) := (hb2'.cell (p := ⟨B3, 0, none⟩) (Nat.lt_of_lt_of_le hB3 (by simp))).trans ((HBA.out.cell (p := ⟨B3, 0, none⟩) hB3).trans H3.out); have hb2k := Aside0.mk (HBA.out.trans (hb2'.mono HBA.out.size))))
  clear hfind h10 h11 h2 h3 HBA
  cases hx4 : x.f4 with
  | true =>
    rw [hx4] at d6
    have hr : V = false := by rw [← HVV.out, hx4]; rfl
    subst hr
    have HX := Aside0.mk hx4
    clear hx4
    have hd : (!true) = false := rfl
    go_quiet (fail)
    go_wp2
    go_ret
    exact ⟨rfl, (hb2k.out.trans ((Drawn0.below ⟨⟨_, rfl⟩⟩).mono hb2k.out.size))⟩
  | false =>
    rw [hx4] at d6
    by_cases hp0 : 0 ≤ P
    · by_cases hp1 : P < (zs.length : Int)
      · obtain ⟨ad, rfl, e0, e1, e2, e3, e4, e5, e6⟩ := at_T50 (Kd.C_below HZ.out hb2k.out) P hp0 hp1
        have hr : V = !zcan (rd_T50 zs P) n x := by rw [← HVV.out, hx4, decide_eq_true hp0, decide_eq_true hp1]; rfl
        have hcan := zcan_is (rd_T50 zs P) n x
        generalize rd_T50 zs P = z at e0 e1 e2 e3 e4 e5 e6 hcan hr
        generalize zcan z n x = b at hcan hr
        clear HVV
        subst hr
        have hzc := fun W => (zone_Can.calls 9 z.f0 z.f1.f0 z.f1.f1 z.f1.f2 z.f2.f0 z.f2.f1 z.f2.f2 n x.f1 x.f2.f0 x.f2.f1 x.f2.f2 b W hcan).mono (R' := fun e w' => e = .returned (.bool b) ∧ Below W.heap.size W w' ∧ ∀ p v, W.cell? p = some v → w'.cell? p = some v) (fun e w' h => ⟨h.1, h.2, fun p v hp => (h.2.cell (World.block_lt_of_cell? W p hp)).trans hp⟩)
        have HZC := Aside0.mk hzc
        have HX := Aside0.mk hx4
        clear hzc hcan hx4
        go_region_held3 (fun w' => Below w2.heap.size w2 w' ∧ w'.cell? ⟨B2, 0, none⟩ = some (.slice (some ad) zs.length cz) ∧ w'.cell? ⟨B3, 0, none⟩ = some (.int .i64 n) ∧ w'.cell? ⟨w.heap.size, 1, none⟩ = some (.int .i64 x.f1) ∧ w'.cell? ⟨w.heap.size, 2, none⟩ = some (.int .i64 x.f2.f0) ∧ w'.cell? ⟨w.heap.size, 3, none⟩ = some (.int .i64 x.f2.f1) ∧ w'.cell? ⟨w.heap.size, 4, none⟩ = some (.string x.f2.f2) ∧ w'.cell? ⟨w.heap.size, 6, none⟩ = some (.bool false) ∧ w'.cell? (ad.add (P.toNat * 7)) = some (.int .i64 z.f0) ∧ w'.cell? ⟨(ad.add (P.toNat * 7)).block, (ad.add (P.toNat * 7)).off + 1, none⟩ = some (.int .i64 z.f1.f0) ∧ w'.cell? ⟨(ad.add (P.toNat * 7)).block, (ad.add (P.toNat * 7)).off + 2, none⟩ = some (.int .i64 z.f1.f1) ∧ w'.cell? ⟨(ad.add (P.toNat * 7)).block, (ad.add (P.toNat * 7)).off + 3, none⟩ = some (.string z.f1.f2) ∧ w'.cell? ⟨(ad.add (P.toNat * 7)).block, (ad.add (P.toNat * 7)).off + 4, none⟩ = some (.int .i64 z.f2.f0) ∧ w'.cell? ⟨(ad.add (P.toNat * 7)).block, (ad.add (P.toNat * 7)).off + 5, none⟩ = some (.int .i64 z.f2.f1) ∧ w'.cell? ⟨(ad.add (P.toNat * 7)).block, (ad.add (P.toNat * 7)).off + 6, none⟩ = some (.string z.f2.f2)) ((repeat' apply And.intro) <;> first | assumption | exact Below.drew (Below.refl _ _) | exact hk _ _ (by assumption) | exact Below.trans (by assumption) (hb3'.mono (Below.size (by assumption))) | (simp [*]; done) | exact Below.trans (Below.drew (Below.refl _ w2)) hb3')
          (first | (go_at_call 38; refine (HZC.out _).mono ?_; rintro e w3 ⟨rfl, hb3', hk⟩))
        go_wp2
        go_ret
        exact ⟨rfl, hb2k.out.trans ((Below.trans (Below.drew (Below.refl _ w2)) hb3').mono hb2k.out.size)⟩
      · have hr : V = false := by rw [← HVV.out, decide_eq_false hp1]; simp
        subst hr
        have hd : decide (P < (zs.length : Int)) = false := decide_eq_false hp1
        have HX := Aside0.mk hx4
        clear hx4
        go_quiet (fail)
        go_wp2
        go_ret
        exact ⟨rfl, (hb2k.out.trans ((Drawn0.below ⟨⟨_, rfl⟩⟩).mono hb2k.out.size))⟩
    · have hr : V = false := by rw [← HVV.out, decide_eq_false hp0]; simp
      subst hr
      have hd : decide ((0 : Int) ≤ P) = false := decide_eq_false hp0
      have HX := Aside0.mk hx4
      clear hx4
      go_quiet (fail)
      go_wp2
      go_ret
      exact ⟨rfl, (hb2k.out.trans ((Drawn0.below ⟨⟨_, rfl⟩⟩).mono hb2k.out.size))⟩
theorem rd_row (xs : List (List Tst)) (kk : Nat) : rd_L13 xs (kk : Int) = ((xs[kk]?).getD []) := by
  rw [rd_L13, Int.toNat_natCast, List.getD_eq_getElem?_getD]
set_option maxHeartbeats 8000000 in
/-- slices.IndexFunc over rows of tests. -/
theorem indexFunc_Row (p : List Tst → Bool) (g : Nat) (lb : Array Value) (eg : ∀ args w, (callFunc g args).run Try.prog w = .ok (.enter g args) w) (A : Option Addr) (c : Nat) (xs : List (List Tst)) (w : World) (hC : Kd.C (Kd.slice 28 k28) w A xs.length xs)
    (hp : ∀ W (x : List Tst) A0 c0, Below w.heap.size w W → Kd.C k28 W A0 x.length x → x.length ≤ c0 → Calls Try.prog g (#[.slice A0 x.length c0] ++ lb) W fun e w' => e = .returned (.bool (p x)) ∧ Below W.heap.size W w') :
    Calls Try.prog 50 #[.slice A xs.length c, .func (.func g) #[] lb] w fun e w' => e = .returned (.int .i64 (placeP p xs 0)) ∧ Below w.heap.size w w' := by
  have hbig : xs.length ≤ 9223372036854775807 := hC.2.1
  have HC := Aside0.mk hC
  clear hC
  have HP := Aside0.mk hp
  clear hp
  generalize hn : xs.length = n at HC hbig ⊢
  have HN := Aside0.mk hn
  clear hn
  generalize hR : placeP p xs 0 = R
  have HR := Aside0.mk hR
  clear hR
  go_enter Try.func50, Try.ntmps50
  go_wp2
  go_loopg [5, 8] n (fun gg _ s8 wr => ∃ kk : Nat, kk ≤ n ∧ n - kk ≤ gg ∧ s8 = .int .i64 kk ∧ Aside (Below w.heap.size w wr) ∧ Aside (∀ j, j < kk → p ((xs[j]?).getD []) = false))
  case atStart => exact ⟨0, Nat.zero_le _, by omega, rfl, Below.refl _ w, fun j hj => absurd hj (Nat.not_lt_zero _)⟩
  case round =>
    obtain ⟨kk, hkk, hg, rfl, BW, A'⟩ := hrel
    by_cases hlt : kk < n
    · have hltz : (kk : Int) < (n : Int) := by omega
      obtain ⟨ad, A0, cc, rfl, c0, hcc, hCC⟩ := at_L13 (Kd.C_below HC.out BW.out) (kk : Int) (by omega) (by omega)
      have hcall := HP.out wr (rd_L13 xs kk) A0 cc BW.out hCC hcc
      have hrr := rd_row xs kk
      generalize hy : rd_L13 xs kk = y at hcall c0 hrr
      have HY : Aside0 (y = (xs[kk]?).getD []) := ⟨hrr⟩
      clear hy hrr hcc hCC
      simp only [Int.toNat_natCast] at c0
      generalize hm : y.length = m at hcall c0
      clear hm
      cases hq : p y with
      | true =>
        rw [hq] at hcall
        have HQ2 := Aside0.mk hq
        clear hq
        go_wp2_with (go_at_fn g; refine hcall.mono ?_; rintro e w' ⟨rfl, hb'⟩)
        go_ret
        refine ⟨?_, BW.out.trans (hb'.mono BW.out.size)⟩
        rw [← HR.out, placeP_hit p [] xs 0 kk (by have := HN.out; omega) A'.out (by rw [← HY.out]; exact HQ2.out)]
        simp
      | false =>
        rw [hq] at hcall
        have HQ2 := Aside0.mk hq
        clear hq
        go_wp2_with (go_at_fn g; refine hcall.mono ?_; rintro e w' ⟨rfl, hb'⟩)
        go_roundg (n - (kk + 1))
        case measure => omega
        case rel =>
          refine ⟨kk + 1, by omega, by omega, by go_num, BW.out.trans (hb'.mono BW.out.size), (show Aside _ from fun j hj => ?_)⟩
          by_cases e : j = kk
          · subst e
            rw [← HY.out]; exact HQ2.out
          · exact A'.out j (by omega)
    · have hltz : ¬ (kk : Int) < (n : Int) := by omega
      have : kk = n := by omega
      subst this
      go_wp2
      go_ret
      refine ⟨?_, BW.out⟩
      rw [← HR.out, placeP_miss p [] xs 0 (fun j hj => A'.out j (by have := HN.out; omega))]
      rfl
set_option maxHeartbeats 4000000 in
theorem containsFunc_Row (p : List Tst → Bool) (g : Nat) (lb : Array Value) (eg : ∀ args w, (callFunc g args).run Try.prog w = .ok (.enter g args) w) (A : Option Addr) (c : Nat) (xs : List (List Tst)) (w : World) (hC : Kd.C (Kd.slice 28 k28) w A xs.length xs)
    (hp : ∀ W (x : List Tst) A0 c0, Below w.heap.size w W → Kd.C k28 W A0 x.length x → x.length ≤ c0 → Calls Try.prog g (#[.slice A0 x.length c0] ++ lb) W fun e w' => e = .returned (.bool (p x)) ∧ Below W.heap.size W w') :
    Calls Try.prog 39 #[.slice A xs.length c, .func (.func g) #[] lb] w fun e w' => e = .returned (.bool (xs.any p)) ∧ Below w.heap.size w w' := by
  have hcon := indexFunc_Row p g lb eg A c xs w hC hp
  rw [← placeP_any p xs 0]
  clear hC hp eg
  generalize placeP p xs 0 = R at hcon ⊢
  generalize xs.length = n at hcon ⊢
  go_enter Try.func39, Try.ntmps39
  go_wp2_with (go_at_call 50; refine hcon.mono ?_; rintro e w' ⟨rfl, hb'⟩)
  go_ret
  exact ⟨rfl, hb'⟩
def groupCan (cols : List Col) (n : Int) (zs : List Zn) (g : List Tst) : Bool := !(g.any (neverV cols n zs))
set_option maxHeartbeats 4000000 in
theorem group_lit (x : List Tst) (Ax : Option Addr) (cx : Nat) (D B1 B2 B3 : Nat) (A0 : Option Addr) (c0 : Nat) (l0 : List Col) (la : Int) (Az : Option Addr) (cz : Nat) (zs : List Zn) (n : Int) (w : World)
    (hC : Kd.C k64 w A0 l0.length l0) (hc0 : l0.length ≤ c0) (hZ : Kd.C k50 w Az zs.length zs)
    (h10 : w.cell? ⟨B1, 0, none⟩ = some (.slice A0 l0.length c0)) (h11 : w.cell? ⟨B1, 1, none⟩ = some (.int .i64 la)) (h2 : w.cell? ⟨B2, 0, none⟩ = some (.slice Az zs.length cz)) (h3 : w.cell? ⟨B3, 0, none⟩ = some (.int .i64 n))
    (hB1 : B1 < w.heap.size) (hB2 : B2 < w.heap.size) (hB3 : B3 < w.heap.size)
    (hD : w.cell? ⟨D, 0, none⟩ = some (.func (.func 37) #[] #[.pointer (some ⟨B1, 0, none⟩), .pointer (some ⟨B2, 0, none⟩), .pointer (some ⟨B3, 0, none⟩)])) (hx : Kd.C k28 w Ax x.length x) :
    Calls Try.prog 40 #[.slice Ax x.length cx, .pointer (some ⟨D, 0, none⟩)] w fun e w' => e = .returned (.bool (groupCan l0 n zs x)) ∧ Below w.heap.size w w' := by
  have eg : ∀ args w, (callFunc 37 args).run Try.prog w = .ok (.enter 37 args) w := enters_of Try.func37 (by kernel_rfl) rfl
  have hcon := containsFunc_Test (neverV l0 n zs) 37 #[.pointer (some ⟨B1, 0, none⟩), .pointer (some ⟨B2, 0, none⟩), .pointer (some ⟨B3, 0, none⟩)] eg Ax cx x w hx (fun W y hb => by
    have hlt := hb.size
    exact never_lit y B1 B2 B3 A0 c0 l0 la Az cz zs n W (Kd.C_below hC hb) hc0 (Kd.C_below hZ hb) ((hb.cell (p := ⟨B1, 0, none⟩) hB1).trans h10) ((hb.cell (p := ⟨B1, 1, none⟩) hB1).trans h11) ((hb.cell (p := ⟨B2, 0, none⟩) hB2).trans h2) ((hb.cell (p := ⟨B3, 0, none⟩) hB3).trans h3) (by omega) (by omega) (by omega))
  unfold groupCan
  clear hC hZ h10 h11 h2 h3 hx
  generalize x.any (neverV l0 n zs) = b at hcon ⊢
  generalize x.length = m at hcon ⊢
  go_enter Try.func40, Try.ntmps40
  go_wp2_with (go_at_call 28; refine hcon.mono ?_; rintro e w' ⟨rfl, hb'⟩)
  go_ret
  exact ⟨rfl, hb'⟩
def pred_Can.f (k : Nat) (l0_0 : List Col) (a0_1 : Int) (l1 : List Tst) (a2 : Int) (l3 : List Zn) : Option Bool :=
  if l1 = [] then some true else (pred_groups.f k l1).bind fun gs => some (gs.any (groupCan l0_0 a2 l3))
theorem pred_Can.mono : ∀ a0 a1 a2 a3 a4 k, LeO (pred_Can.f k a0 a1 a2 a3 a4) (pred_Can.f (k + 1) a0 a1 a2 a3 a4) := by
  intro a0 a1 a2 a3 a4 k
  unfold pred_Can.f
  exact LeO.ite (LeO.refl _) (LeO.bind (pred_groups.mono _ _) (fun _ => LeO.refl _))
theorem cell_new_at (W : World) (cs : Array Value) (t : TypeId) (B k : Nat) (v : Value) (hB : B = W.heap.size) (h : cs[k]? = some v) : (W.alloc (.cells cs t)).cell? ⟨B, k, none⟩ = some v := by
  subst hB
  exact (blk_cell (heap_alloc_new W _) k).trans h
theorem cell_old_at (W : World) (o : Obj) (a : Addr) (v : Value) (h : W.cell? a = some v) : (W.alloc o).cell? a = some v :=
  ((Below.refl W.heap.size W).alloc (Nat.le_refl _) o |>.cell (World.block_lt_of_cell? W a h)).trans h
theorem can_lit (W4 w5 : World) (B1 B2 B3 D : Nat) (A0 : Option Addr) (c0 : Nat) (l0 : List Col) (la : Int) (Az : Option Addr) (cz : Nat) (zs : List Zn) (n : Int)
    (hC : Kd.C k64 W4 A0 l0.length l0) (hc0 : l0.length ≤ c0) (hZ : Kd.C k50 W4 Az zs.length zs)
    (h10 : W4.cell? ⟨B1, 0, none⟩ = some (.slice A0 l0.length c0)) (h11 : W4.cell? ⟨B1, 1, none⟩ = some (.int .i64 la)) (h2 : W4.cell? ⟨B2, 0, none⟩ = some (.slice Az zs.length cz)) (h3 : W4.cell? ⟨B3, 0, none⟩ = some (.int .i64 n))
    (hD : W4.cell? ⟨D, 0, none⟩ = some (.func (.func 37) #[] #[.pointer (some ⟨B1, 0, none⟩), .pointer (some ⟨B2, 0, none⟩), .pointer (some ⟨B3, 0, none⟩)]))
    (hB1 : B1 < W4.heap.size) (hB2 : B2 < W4.heap.size) (hB3 : B3 < W4.heap.size) (hB4 : D < W4.heap.size) (hb5 : Below W4.heap.size W4 w5)
    (W : World) (x : List Tst) (Ax : Option Addr) (cx : Nat) (hb : Below w5.heap.size w5 W) (hx : Kd.C k28 W Ax x.length x) (_ : x.length ≤ cx) :
    Calls Try.prog 40 (#[.slice Ax x.length cx] ++ #[.pointer (some ⟨D, 0, none⟩)]) W fun e w' => e = .returned (.bool (groupCan l0 n zs x)) ∧ Below W.heap.size W w' := by
  have h := hb5.trans (hb.mono hb5.size)
  have hs := h.size
  exact group_lit x Ax cx D B1 B2 B3 A0 c0 l0 la Az cz zs n W (Kd.C_below hC h) hc0 (Kd.C_below hZ h) ((h.cell (p := ⟨B1, 0, none⟩) hB1).trans h10) ((h.cell (p := ⟨B1, 1, none⟩) hB1).trans h11) ((h.cell (p := ⟨B2, 0, none⟩) hB2).trans h2) ((h.cell (p := ⟨B3, 0, none⟩) hB3).trans h3) (by omega) (by omega) (by omega) ((h.cell (p := ⟨D, 0, none⟩) hB4).trans hD) hx
set_option maxHeartbeats 4000000 in
theorem pred_Can.calls (k : Nat) (A0_0 : Option Addr) (c0_0 : Nat) (l0_0 : List Col) (a0_1 : Int) (A1 : Option Addr) (c1 : Nat) (l1 : List Tst) (a2 : Int) (A3 : Option Addr) (c3 : Nat) (l3 : List Zn) (r : Bool) (w : World) (hr0_0 : Kd.C k64 w A0_0 l0_0.length l0_0) (hc0_0 : l0_0.length ≤ c0_0) (hr1 : Kd.C k28 w A1 l1.length l1) (hc1 : l1.length ≤ c1) (hr3 : Kd.C k50 w A3 l3.length l3) (hc3 : l3.length ≤ c3) (h : pred_Can.f k l0_0 a0_1 l1 a2 l3 = some r) :
    Calls Try.prog 18 #[.agg #[.slice A0_0 l0_0.length c0_0, .int .i64 a0_1], .slice A1 l1.length c1, .int .i64 a2, .slice A3 l3.length c3] w fun e w' => e = .returned (.bool r) ∧ Below w.heap.size w w' := by
  have hb1 : Below w.heap.size w (w.alloc (.cells #[.slice A0_0 l0_0.length c0_0, .int .i64 a0_1] 33)) := (Below.refl _ w).alloc (Nat.le_refl _) _
  have hb2 := hb1.alloc hb1.size (.cells #[.int .i64 a2] 3)
  have hb3 := hb2.alloc hb2.size (.cells #[.slice A3 l3.length c3] 48)
  have hb4 := hb3.alloc hb3.size (.cells #[.func (.func 37) #[] #[.pointer (some ⟨w.heap.size, 0, none⟩), .pointer (some ⟨w.heap.size + 2, 0, none⟩), .pointer (some ⟨w.heap.size + 1, 0, none⟩)]] 80)
  unfold pred_Can.f at h
  by_cases hnil : l1 = []
  · rw [if_pos hnil] at h
    obtain rfl := Option.some.inj h
    subst hnil
    have HB4 := Aside0.mk hb4
    clear hb1 hb2 hb3 hb4 h hr0_0 hr1 hr3
    go_enter Try.func18, Try.ntmps18
    go_wp2
    go_ret
    exact ⟨rfl, HB4.out⟩
  · rw [if_neg hnil] at h
    obtain ⟨gs, hg, h⟩ := Option.bind_eq_some_iff.mp h
    obtain rfl := Option.some.inj h
    have hl : ¬ (l1.length : Int) = 0 := by
      have : l1.length ≠ 0 := fun e => hnil (List.length_eq_zero_iff.1 e)
      omega
    have hgr := pred_groups.calls k A1 c1 l1 gs _ (Kd.C_below hr1 hb4) hc1 hg
    have eg : ∀ args w, (callFunc 40 args).run Try.prog w = .ok (.enter 40 args) w := enters_of Try.func40 (by kernel_rfl) rfl
    have k0 : ((((w.alloc (.cells #[.slice A0_0 l0_0.length c0_0, .int .i64 a0_1] 33)).alloc (.cells #[.int .i64 a2] 3)).alloc (.cells #[.slice A3 l3.length c3] 48)).alloc (.cells #[.func (.func 37) #[] #[.pointer (some ⟨w.heap.size, 0, none⟩), .pointer (some ⟨w.heap.size + 2, 0, none⟩), .pointer (some ⟨w.heap.size + 1, 0, none⟩)]] 80)).heap.size = w.heap.size + 4 := by simp
    have z0 : ((((w.alloc (.cells #[.slice A0_0 l0_0.length c0_0, .int .i64 a0_1] 33)).alloc (.cells #[.int .i64 a2] 3)).alloc (.cells #[.slice A3 l3.length c3] 48)).alloc (.cells #[.func (.func 37) #[] #[.pointer (some ⟨w.heap.size, 0, none⟩), .pointer (some ⟨w.heap.size + 2, 0, none⟩), .pointer (some ⟨w.heap.size + 1, 0, none⟩)]] 80)).cell? ⟨w.heap.size, 0, none⟩ = some (.slice A0_0 l0_0.length c0_0) := by
      exact cell_old_at _ _ _ _ (cell_old_at _ _ _ _ (cell_old_at _ _ _ _ (cell_new_at _ _ _ _ _ _ rfl rfl)))
    have z1 : ((((w.alloc (.cells #[.slice A0_0 l0_0.length c0_0, .int .i64 a0_1] 33)).alloc (.cells #[.int .i64 a2] 3)).alloc (.cells #[.slice A3 l3.length c3] 48)).alloc (.cells #[.func (.func 37) #[] #[.pointer (some ⟨w.heap.size, 0, none⟩), .pointer (some ⟨w.heap.size + 2, 0, none⟩), .pointer (some ⟨w.heap.size + 1, 0, none⟩)]] 80)).cell? ⟨w.heap.size, 1, none⟩ = some (.int .i64 a0_1) := by
      exact cell_old_at _ _ _ _ (cell_old_at _ _ _ _ (cell_old_at _ _ _ _ (cell_new_at _ _ _ _ _ _ rfl rfl)))
    have z2 : ((((w.alloc (.cells #[.slice A0_0 l0_0.length c0_0, .int .i64 a0_1] 33)).alloc (.cells #[.int .i64 a2] 3)).alloc (.cells #[.slice A3 l3.length c3] 48)).alloc (.cells #[.func (.func 37) #[] #[.pointer (some ⟨w.heap.size, 0, none⟩), .pointer (some ⟨w.heap.size + 2, 0, none⟩), .pointer (some ⟨w.heap.size + 1, 0, none⟩)]] 80)).cell? ⟨w.heap.size + 2, 0, none⟩ = some (.slice A3 l3.length c3) := by
      exact cell_old_at _ _ _ _ (cell_new_at _ _ _ _ _ _ (by simp) rfl)
    have z3 : ((((w.alloc (.cells #[.slice A0_0 l0_0.length c0_0, .int .i64 a0_1] 33)).alloc (.cells #[.int .i64 a2] 3)).alloc (.cells #[.slice A3 l3.length c3] 48)).alloc (.cells #[.func (.func 37) #[] #[.pointer (some ⟨w.heap.size, 0, none⟩), .pointer (some ⟨w.heap.size + 2, 0, none⟩), .pointer (some ⟨w.heap.size + 1, 0, none⟩)]] 80)).cell? ⟨w.heap.size + 1, 0, none⟩ = some (.int .i64 a2) := by
      exact cell_old_at _ _ _ _ (cell_old_at _ _ _ _ (cell_new_at _ _ _ _ _ _ (by simp) rfl))
    have z4 : ((((w.alloc (.cells #[.slice A0_0 l0_0.length c0_0, .int .i64 a0_1] 33)).alloc (.cells #[.int .i64 a2] 3)).alloc (.cells #[.slice A3 l3.length c3] 48)).alloc (.cells #[.func (.func 37) #[] #[.pointer (some ⟨w.heap.size, 0, none⟩), .pointer (some ⟨w.heap.size + 2, 0, none⟩), .pointer (some ⟨w.heap.size + 1, 0, none⟩)]] 80)).cell? ⟨w.heap.size + 3, 0, none⟩ = some (.func (.func 37) #[] #[.pointer (some ⟨w.heap.size, 0, none⟩), .pointer (some ⟨w.heap.size + 2, 0, none⟩), .pointer (some ⟨w.heap.size + 1, 0, none⟩)]) := by
      exact cell_new_at _ _ _ _ _ _ (by simp) rfl
    have hlit := fun w5 hb5 => can_lit _ w5 w.heap.size (w.heap.size + 2) (w.heap.size + 1) (w.heap.size + 3) A0_0 c0_0 l0_0 a0_1 A3 c3 l3 a2 (Kd.C_below hr0_0 hb4) hc0_0 (Kd.C_below hr3 hb4) z0 z1 z2 z3 z4 (by rw [k0]; omega) (by rw [k0]; omega) (by rw [k0]; omega) (by rw [k0]; omega) hb5
    clear k0
    have HB4 := Aside0.mk hb4
    have HL := Aside0.mk hlit
    clear hb1 hb2 hb3 hb4 h hr0_0 hr1 hr3 hg hnil hlit
    generalize l1.length = m at hgr hl hc1 ⊢
    go_enter Try.func18, Try.ntmps18
    go_wp2_with (first | (go_at_call 35; refine hgr.mono ?_; rintro e w5 ⟨v0, rfl, hS, hb5⟩; obtain ⟨A, c, rfl, hle, hCC⟩ := Kd.S_reads hS; have hcon := containsFunc_Row (groupCan l0_0 a2 l3) 40 #[.pointer (some ⟨w.heap.size + 3, 0, none⟩)] eg A c gs w5 hCC (HL.out w5 hb5); have HB5 := Aside0.mk hb5; clear hCC hS hb5) | (go_at_call 39; refine hcon.mono ?_; rintro e w6 ⟨rfl, hb6⟩))
    go_ret
    have h5 := HB4.out.trans (HB5.out.mono HB4.out.size)
    exact ⟨by rw [show ((m : Int) == 0) = false by rw [beq_eq_false_iff_ne]; omega]; rfl, h5.trans (hb6.mono h5.size)⟩
end Go.Proofs.Ytiicfblccklfhaa.Ext
end
section
namespace Go.Proofs.Ytiicfblccklfhaa.Ext
open Go Go.Proofs Go.Lib Go.RowKit Go.Proofs.YtiicfblccklfhaaW.PrintWords Go.Proofs.YtiicfblccklfhaaW.PrintLast Go.Proofs.YtiicfblccklfhaaW.PrintMore Go.Proofs.Ytiicfblccklfhaa.PK Go.Proofs.Ytiicfblccklfhaa.PM Go.Proofs.Ytiicfblccklfhaa.PG
set_option linter.unusedVariables false
set_option maxRecDepth 100000
abbrev Vl := S26
def testV (x : Tst) (v : Vl) : Int := (pred_test.f 9 x.f0 x.f1 x.f2.f0 x.f2.f1 x.f2.f2 x.f3 x.f4 v.f0 v.f1 v.f2).getD 0
theorem test_is (x : Tst) (v : Vl) : pred_test.f 9 x.f0 x.f1 x.f2.f0 x.f2.f1 x.f2.f2 x.f3 x.f4 v.f0 v.f1 v.f2 = some (testV x v) := by
  have : ∃ b, pred_test.f 9 x.f0 x.f1 x.f2.f0 x.f2.f1 x.f2.f2 x.f3 x.f4 v.f0 v.f1 v.f2 = some b := by
    have hs : ∀ b, ∃ i, pred_said.f b = some i := fun b => by cases b <;> exact ⟨_, rfl⟩
    have hh : ∀ a c, ∃ b, pred_holds.f a c = some b := fun a c => by
      unfold pred_holds.f
      repeat' first
        | exact ⟨_, rfl⟩
        | split
    obtain ⟨c, hc⟩ := compare_is v.f0 v.f1 v.f2 x.f2.f0 x.f2.f1 x.f2.f2
    obtain ⟨h, hh⟩ := hh x.f1 c
    obtain ⟨i, hi⟩ := hs h
    obtain ⟨i2, hi2⟩ := hs ((v.f0 == 0) == (x.f1 == 7))
    have ha : ∃ b, pred_asks.f x.f0 x.f1 x.f2.f0 x.f2.f1 x.f2.f2 x.f3 x.f4 = some b := by
      unfold pred_asks.f
      split <;> exact ⟨_, rfl⟩
    obtain ⟨a, ha⟩ := ha
    have hj : ∀ b, ∃ q, pred_test.j0 9 b x.f0 x.f1 x.f2.f0 x.f2.f1 x.f2.f2 x.f3 x.f4 v.f0 v.f1 v.f2 = some q := fun b => by
      unfold pred_test.j0
      simp only [hc, hh, hi, Option.bind_some]
      cases b <;> cases x.f4 <;> exact ⟨_, rfl⟩
    unfold pred_test.f
    simp only [ha, hi2, Option.bind_some]
    cases a
    · simp only [Bool.false_eq_true, if_false]
      split
      · exact hj _
      · exact hj _
    · simp only [if_true]
      split <;> exact ⟨_, rfl⟩
  obtain ⟨b, h⟩ := this
  unfold testV
  rw [h]; rfl
def leastV (cols : List Col) (r : List Vl) : List Tst → Int → Int
  | [], m => m
  | x :: l, m => leastV cols r l (if 0 ≤ placeOf x.f0 cols 0 ∧ placeOf x.f0 cols 0 < r.length then min m (testV x (rd_T26 r (placeOf x.f0 cols 0))) else m)
def allV (cols : List Col) (r : List Vl) : List (List Tst) → Int → Int
  | [], m => m
  | g :: gs, m => allV cols r gs (max m (leastV cols r g 2))
def pred_Row.f (k : Nat) (l0_0 : List Col) (a0_1 : Int) (l1 : List Tst) (l2 : List Vl) : Option Int :=
  if l1 = [] then some 2 else (pred_groups.f k l1).bind fun gs => some (allV l0_0 l2 gs 0)
theorem pred_Row.mono : ∀ a0 a1 a2 a3 k, LeO (pred_Row.f k a0 a1 a2 a3) (pred_Row.f (k + 1) a0 a1 a2 a3) := by
  intro a0 a1 a2 a3 k
  unfold pred_Row.f
  exact LeO.ite (LeO.refl _) (LeO.bind (pred_groups.mono _ _) (fun _ => LeO.refl _))
set_option maxHeartbeats 4000000 in
theorem pred_Row.calls (k : Nat) (A0_0 : Option Addr) (c0_0 : Nat) (l0_0 : List Col) (a0_1 : Int) (A1 : Option Addr) (c1 : Nat) (l1 : List Tst) (A2 : Option Addr) (c2 : Nat) (l2 : List Vl) (r : Int) (w : World) (hr0_0 : Kd.C k64 w A0_0 l0_0.length l0_0) (hc0_0 : l0_0.length ≤ c0_0) (hr1 : Kd.C k28 w A1 l1.length l1) (hc1 : l1.length ≤ c1) (hr2 : Kd.C k26 w A2 l2.length l2) (hc2 : l2.length ≤ c2) (h : pred_Row.f k l0_0 a0_1 l1 l2 = some r) :
    Calls Try.prog 17 #[.agg #[.slice A0_0 l0_0.length c0_0, .int .i64 a0_1], .slice A1 l1.length c1, .slice A2 l2.length c2] w fun e w' => e = .returned (.int .i64 r) ∧ Below w.heap.size w w' := by
  have hb1 : Below w.heap.size w (w.alloc (.cells #[.slice A0_0 l0_0.length c0_0, .int .i64 a0_1] 33)) := (Below.refl _ w).alloc (Nat.le_refl _) _
  unfold pred_Row.f at h
  by_cases hnil : l1 = []
  · rw [if_pos hnil] at h
    obtain rfl := Option.some.inj h
    subst hnil
    have HB1 := Aside0.mk hb1
    clear hb1 h hr0_0 hr1 hr2
    go_enter Try.func17, Try.ntmps17
    go_wp2
    go_ret
    exact ⟨rfl, HB1.out⟩
  · rw [if_neg hnil] at h
    obtain ⟨gs, hg, h⟩ := Option.bind_eq_some_iff.mp h
    have hR := Option.some.inj h
    have hl : ¬ (l1.length : Int) = 0 := by
      have : l1.length ≠ 0 := fun e => hnil (List.length_eq_zero_iff.1 e)
      omega
    have hgr := pred_groups.calls k A1 c1 l1 gs _ (Kd.C_below hr1 hb1) hc1 hg
    have HR := Aside0.mk hR
    have HB1 := Aside0.mk hb1
    have HC0 := Aside0.mk hr0_0
    have HC2 := Aside0.mk hr2
    have hbig2 : l2.length ≤ 9223372036854775807 := hr2.2.1
    clear h hb1 hr0_0 hr1 hr2 hg hnil hR
    generalize l1.length = m at hgr hl hc1 ⊢
    have hl' : ((m : Int) == 0) = false := by rw [beq_eq_false_iff_ne]; exact hl
    clear hl
    go_enter Try.func17, Try.ntmps17
    go_wp2_with (first | (go_at_call 35; refine hgr.mono ?_; rintro e w5 ⟨v0, rfl, hS, hb5⟩; obtain ⟨AG, cG, rfl, hle, hCC⟩ := Kd.S_reads hS; have HCG := Aside0.mk hCC; have HB5 := Aside0.mk hb5; clear hCC hS hb5 hle))
    have hs0 : w5.cell? ⟨w.heap.size, 0, none⟩ = some (.slice A0_0 l0_0.length c0_0) := (HB5.out.cell (p := ⟨w.heap.size, 0, none⟩) (by simp)).trans (by simp)
    have hs1 : w5.cell? ⟨w.heap.size, 1, none⟩ = some (.int .i64 a0_1) := (HB5.out.cell (p := ⟨w.heap.size, 1, none⟩) (by simp)).trans (by simp)
    have hlt : w.heap.size < w5.heap.size := Nat.lt_of_lt_of_le (by simp) HB5.out.size
    have hw5 := HB1.out.trans (HB5.out.mono HB1.out.size)
    have HW5 := Aside0.mk hw5
    have HS0 := Aside0.mk hs0
    have HS1 := Aside0.mk hs1
    have HLT := Aside0.mk hlt
    clear hw5 hs0 hs1 hlt HB5 HB1 hgr
    have hbigG : gs.length ≤ 9223372036854775807 := HCG.out.2.1
    generalize hG : gs.length = G at HCG hbigG ⊢
    have HG := Aside0.mk hG
    clear hG
    go_loopg [7, 20] G (fun gg s7 s20 wr => ∃ (kk : Nat) (mm : Int), kk ≤ G ∧ G - kk ≤ gg ∧ s7 = .int .i64 mm ∧ s20 = .int .i64 kk ∧ Aside0 (Below w5.heap.size w5 wr) ∧ Aside0 (allV l0_0 l2 (gs.drop kk) mm = r))
    case atStart => exact ⟨0, 0, Nat.zero_le _, by omega, rfl, rfl, ⟨Below.refl _ _⟩, ⟨by simpa using HR.out⟩⟩
    case round =>
      obtain ⟨kk, mm, hkk, hg, rfl, rfl, BW, HK⟩ := hrel
      by_cases hlt : kk < G
      · have hltz : (kk : Int) < (G : Int) := by omega
        obtain ⟨ad, A3, c3, rfl, e0, hc3, hC3⟩ := at_L13 (Kd.C_below HCG.out BW.out) (kk : Int) (by omega) (by omega)
        have hdrop : gs.drop kk = rd_L13 gs (kk : Int) :: gs.drop (kk + 1) := by
          have hk : kk < gs.length := by have := HG.out; omega
          rw [List.drop_eq_getElem_cons hk]
          congr 1
          rw [rd_L13, Int.toNat_natCast, List.getD_eq_getElem?_getD, List.getElem?_eq_getElem hk]
          rfl
        have HD := HK.out
        rw [hdrop] at HD
        unfold allV at HD
        generalize rd_L13 gs (kk : Int) = g at e0 hc3 hC3 HD hdrop
        have hbigg : g.length ≤ 9223372036854775807 := hC3.2.1
        have HC3 := Aside0.mk hC3
        clear hC3 hdrop HK
        simp only [Int.toNat_natCast] at e0
        generalize hgl : g.length = gn at e0 hc3 hbigg HC3
        have HGL' := Aside0.mk hgl
        have HD0 := Aside0.mk HD
        clear hgl HD
        go_wp2
        obtain ⟨wo, rfl⟩ : ∃ x, x = wr := ⟨_, rfl⟩
        go_loopg [10, 26] gn (fun gg s10 s26 wr => ∃ (jj : Nat) (m2 : Int), jj ≤ gn ∧ gn - jj ≤ gg ∧ s10 = .int .i64 m2 ∧ s26 = .int .i64 jj ∧ Aside0 (Below wo.heap.size wo wr) ∧ Aside0 (allV l0_0 l2 (gs.drop (kk + 1)) (max mm (leastV l0_0 l2 (g.drop jj) m2)) = r))
        case atStart => exact ⟨0, 2, Nat.zero_le _, by omega, rfl, rfl, ⟨Below.refl _ _⟩, ⟨by simpa using HD0.out⟩⟩
        case round =>
          obtain ⟨jj, m2, hjj, hg2, rfl, rfl, BI, HK2⟩ := hrel
          by_cases hlt2 : jj < gn
          · have hltz2 : (jj : Int) < (gn : Int) := by omega
            obtain ⟨ad3, rfl, c0, c1, c2, c3, c4, c5, c6⟩ := at_T28 (Kd.C_below HC3.out BI.out) (jj : Int) (by omega) (by omega)
            have hdrop : g.drop jj = rd_T28 g (jj : Int) :: g.drop (jj + 1) := by
              have hk : jj < g.length := by have := HGL'.out; omega
              rw [List.drop_eq_getElem_cons hk]
              congr 1
              rw [rd_T28, Int.toNat_natCast, List.getD_eq_getElem?_getD, List.getElem?_eq_getElem hk]
              rfl
            have HD := HK2.out
            rw [hdrop] at HD
            unfold leastV at HD
            generalize rd_T28 g (jj : Int) = y at c0 c1 c2 c3 c4 c5 c6 HD hdrop
            simp only [Int.toNat_natCast] at c0 c1 c2 c3 c4 c5 c6
            have hWI := HW5.out.trans ((BW.out.trans (BI.out.mono BW.out.size)).mono HW5.out.size)
            have hW5I := BW.out.trans (BI.out.mono BW.out.size)
            have hLT := Nat.lt_of_lt_of_le HLT.out hW5I.size
            have hne : ¬ w.heap.size = wr.heap.size := by omega
            have hs0 := (hW5I.cell (p := ⟨w.heap.size, 0, none⟩) HLT.out).trans HS0.out
            have hs1 := (hW5I.cell (p := ⟨w.heap.size, 1, none⟩) HLT.out).trans HS1.out
            have hbA : Below wr.heap.size wr (wr.alloc (.cells #[.string y.f0, .int .i64 y.f1, .int .i64 y.f2.f0, .int .i64 y.f2.f1, .string y.f2.f2, .bool y.f3, .bool y.f4] 28)) := (Below.refl _ wr).alloc (Nat.le_refl _) _
            have hfind := pred_find.calls A0_0 c0_0 l0_0 a0_1 y.f0 (placeOf y.f0 l0_0 0) _ (Kd.C_below HC0.out (hWI.trans (hbA.mono hWI.size))) hc0_0 rfl
            generalize hP : placeOf y.f0 l0_0 0 = P at hfind HD
            have HBA := Aside0.mk hbA
            have HWI := Aside0.mk hWI
            clear hbA hWI hW5I hdrop hP HK2
            by_cases hp0 : 0 ≤ P
            · by_cases hp1 : P < (l2.length : Int)
              · rw [if_pos ⟨hp0, hp1⟩] at HD
                have HD' := Aside0.mk HD
                clear HD
                go_wp2_with (first | (go_at_call 29; refine hfind.mono ?_; rintro e w2 ⟨rfl, hb2'⟩; have d0 : w2.cell? ⟨wr.heap.size, 0, none⟩ = some (.string y.f0) := (hb2'.cell (p := ⟨wr.heap.size, 0, none⟩) (by simp)).trans (by simp); have d1 : w2.cell? ⟨wr.heap.size, 1, none⟩ = some (.int .i64 y.f1) := (hb2'.cell (p := ⟨wr.heap.size, 1, none⟩) (by simp)).trans (by simp); have d2 : w2.cell? ⟨wr.heap.size, 2, none⟩ = some (.int .i64 y.f2.f0) := (hb2'.cell (p := ⟨wr.heap.size, 2, none⟩) (by simp)).trans (by simp); have d3 : w2.cell? ⟨wr.heap.size, 3, none⟩ = some (.int .i64 y.f2.f1) := (hb2'.cell (p := ⟨wr.heap.size, 3, none⟩) (by simp)).trans (by simp); have d4 : w2.cell? ⟨wr.heap.size, 4, none⟩ = some (.string y.f2.f2) := (hb2'.cell (p := ⟨wr.heap.size, 4, none⟩) (by simp)).trans (by simp); have d5 : w2.cell? ⟨wr.heap.size, 5, none⟩ = some (.bool y.f3) := (hb2'.cell (p := ⟨wr.heap.size, 5, none⟩) (by simp)).trans (by simp); have d6 : w2.cell? ⟨wr.heap.size, 6, none⟩ = some (.bool y.f4) := (hb2'.cell (p := ⟨wr.heap.size, 6, none⟩) (by simp)).trans (by simp); have hb2k := Aside0.mk (HBA.out.trans (hb2'.mono HBA.out.size))))
                clear hfind hs0 hs1 c0 c1 c2 c3 c4 c5 c6
                obtain ⟨ad4, rfl, q0, q1, q2⟩ := at_T26 (Kd.C_below HC2.out (HWI.out.trans (hb2k.out.mono HWI.out.size))) P hp0 hp1
                have htest := test_is y (rd_T26 l2 P)
                generalize rd_T26 l2 P = z at q0 q1 q2 htest HD'
                generalize testV y z = b at htest HD'
                have HT := Aside0.mk (fun W => (pred_test.calls 9 y.f0 y.f1 y.f2.f0 y.f2.f1 y.f2.f2 y.f3 y.f4 z.f0 z.f1 z.f2 b W htest).mono (R' := fun e w' => e = .returned (.int .i64 b) ∧ Below W.heap.size W w' ∧ ∀ p v, W.cell? p = some v → w'.cell? p = some v) (fun e w' h => ⟨h.1, h.2, fun p v hp => (h.2.cell (World.block_lt_of_cell? W p hp)).trans hp⟩))
                clear htest
                go_region_held3 (fun w' => Below w2.heap.size w2 w' ∧ w'.cell? ⟨wr.heap.size, 0, none⟩ = some (.string y.f0) ∧ w'.cell? ⟨wr.heap.size, 1, none⟩ = some (.int .i64 y.f1) ∧ w'.cell? ⟨wr.heap.size, 2, none⟩ = some (.int .i64 y.f2.f0) ∧ w'.cell? ⟨wr.heap.size, 3, none⟩ = some (.int .i64 y.f2.f1) ∧ w'.cell? ⟨wr.heap.size, 4, none⟩ = some (.string y.f2.f2) ∧ w'.cell? ⟨wr.heap.size, 5, none⟩ = some (.bool y.f3) ∧ w'.cell? ⟨wr.heap.size, 6, none⟩ = some (.bool y.f4) ∧ w'.cell? (ad4.add (P.toNat * 3)) = some (.int .i64 z.f0) ∧ w'.cell? ⟨(ad4.add (P.toNat * 3)).block, (ad4.add (P.toNat * 3)).off + 1, none⟩ = some (.int .i64 z.f1) ∧ w'.cell? ⟨(ad4.add (P.toNat * 3)).block, (ad4.add (P.toNat * 3)).off + 2, none⟩ = some (.string z.f2)) ((repeat' apply And.intro) <;> first | assumption | exact Below.drew (Below.refl _ _) | exact hk _ _ (by assumption) | exact Below.trans (by assumption) (hb3'.mono (Below.size (by assumption))) | (simp [*]; done) | exact Below.trans (Below.drew (Below.refl _ w2)) hb3')
                  (first | (go_at_call 36; refine (HT.out _).mono ?_; rintro e w3 ⟨rfl, hb3', hk⟩))
                have h3 := Below.trans (Below.drew (Below.refl _ w2)) hb3'
                have h3k := Aside0.mk (hb2k.out.trans (h3.mono hb2k.out.size))
                go_wp2
                go_roundg (gn - (jj + 1))
                case measure => omega
                case rel => exact ⟨jj + 1, min m2 b, by omega, by omega, rfl, by go_num, ⟨BI.out.trans (h3k.out.mono BI.out.size)⟩, HD'⟩
              · rw [if_neg (fun h => hp1 h.2)] at HD
                have HD' := Aside0.mk HD
                clear HD
                have hd : decide (P < (l2.length : Int)) = false := decide_eq_false hp1
                go_wp2_with (first | (go_at_call 29; refine hfind.mono ?_; rintro e w2 ⟨rfl, hb2'⟩; have d0 : w2.cell? ⟨wr.heap.size, 0, none⟩ = some (.string y.f0) := (hb2'.cell (p := ⟨wr.heap.size, 0, none⟩) (by simp)).trans (by simp); have d1 : w2.cell? ⟨wr.heap.size, 1, none⟩ = some (.int .i64 y.f1) := (hb2'.cell (p := ⟨wr.heap.size, 1, none⟩) (by simp)).trans (by simp); have d2 : w2.cell? ⟨wr.heap.size, 2, none⟩ = some (.int .i64 y.f2.f0) := (hb2'.cell (p := ⟨wr.heap.size, 2, none⟩) (by simp)).trans (by simp); have d3 : w2.cell? ⟨wr.heap.size, 3, none⟩ = some (.int .i64 y.f2.f1) := (hb2'.cell (p := ⟨wr.heap.size, 3, none⟩) (by simp)).trans (by simp); have d4 : w2.cell? ⟨wr.heap.size, 4, none⟩ = some (.string y.f2.f2) := (hb2'.cell (p := ⟨wr.heap.size, 4, none⟩) (by simp)).trans (by simp); have d5 : w2.cell? ⟨wr.heap.size, 5, none⟩ = some (.bool y.f3) := (hb2'.cell (p := ⟨wr.heap.size, 5, none⟩) (by simp)).trans (by simp); have d6 : w2.cell? ⟨wr.heap.size, 6, none⟩ = some (.bool y.f4) := (hb2'.cell (p := ⟨wr.heap.size, 6, none⟩) (by simp)).trans (by simp); have hb2k := Aside0.mk (HBA.out.trans (hb2'.mono HBA.out.size))))
                go_roundg (gn - (jj + 1))
                case measure => omega
                case rel => exact ⟨jj + 1, m2, by omega, by omega, rfl, by go_num, ⟨BI.out.trans (hb2k.out.mono BI.out.size)⟩, HD'⟩
            · rw [if_neg (fun h => hp0 h.1)] at HD
              have HD' := Aside0.mk HD
              clear HD
              have hd : decide ((0 : Int) ≤ P) = false := decide_eq_false hp0
              go_wp2_with (first | (go_at_call 29; refine hfind.mono ?_; rintro e w2 ⟨rfl, hb2'⟩; have d0 : w2.cell? ⟨wr.heap.size, 0, none⟩ = some (.string y.f0) := (hb2'.cell (p := ⟨wr.heap.size, 0, none⟩) (by simp)).trans (by simp); have d1 : w2.cell? ⟨wr.heap.size, 1, none⟩ = some (.int .i64 y.f1) := (hb2'.cell (p := ⟨wr.heap.size, 1, none⟩) (by simp)).trans (by simp); have d2 : w2.cell? ⟨wr.heap.size, 2, none⟩ = some (.int .i64 y.f2.f0) := (hb2'.cell (p := ⟨wr.heap.size, 2, none⟩) (by simp)).trans (by simp); have d3 : w2.cell? ⟨wr.heap.size, 3, none⟩ = some (.int .i64 y.f2.f1) := (hb2'.cell (p := ⟨wr.heap.size, 3, none⟩) (by simp)).trans (by simp); have d4 : w2.cell? ⟨wr.heap.size, 4, none⟩ = some (.string y.f2.f2) := (hb2'.cell (p := ⟨wr.heap.size, 4, none⟩) (by simp)).trans (by simp); have d5 : w2.cell? ⟨wr.heap.size, 5, none⟩ = some (.bool y.f3) := (hb2'.cell (p := ⟨wr.heap.size, 5, none⟩) (by simp)).trans (by simp); have d6 : w2.cell? ⟨wr.heap.size, 6, none⟩ = some (.bool y.f4) := (hb2'.cell (p := ⟨wr.heap.size, 6, none⟩) (by simp)).trans (by simp); have hb2k := Aside0.mk (HBA.out.trans (hb2'.mono HBA.out.size))))
              go_roundg (gn - (jj + 1))
              case measure => omega
              case rel => exact ⟨jj + 1, m2, by omega, by omega, rfl, by go_num, ⟨BI.out.trans (hb2k.out.mono BI.out.size)⟩, HD'⟩
          · have hltz2 : ¬ (jj : Int) < (gn : Int) := by omega
            have : jj = gn := by omega
            subst this
            have HD := HK2.out
            rw [show g.drop jj = [] from List.drop_of_length_le (by have := HGL'.out; omega)] at HD
            unfold leastV at HD
            have HD' := Aside0.mk HD
            clear HD HK2
            go_wp2
            go_roundg (G - (kk + 1))
            case measure => omega
            case rel => exact ⟨kk + 1, max mm m2, by omega, by omega, rfl, by go_num, ⟨BW.out.trans (BI.out.mono BW.out.size)⟩, HD'⟩
      · have hltz : ¬ (kk : Int) < (G : Int) := by omega
        have : kk = G := by omega
        subst this
        have HD := HK.out
        rw [List.drop_of_length_le (by have := HG.out; omega)] at HD
        unfold allV at HD
        subst HD
        go_wp2
        go_ret
        exact ⟨rfl, HW5.out.trans (BW.out.mono HW5.out.size)⟩
end Go.Proofs.Ytiicfblccklfhaa.Ext
end
section
namespace Go.Proofs.Ytiicfblccklfhaa.PPF
open Go.RowKit Go.Proofs.YtiicfblccklfhaaW.PrintWords Go.Proofs.YtiicfblccklfhaaW.PrintLast Go.Proofs.YtiicfblccklfhaaW.PrintMore
attribute [local go_sem] max2_int min2_int max_two min_two max_three min_three max_four min_four
open Go.Proofs.Ytiicfblccklfhaa.Ext Go.Proofs.Ytiicfblccklfhaa.PK
set_option linter.unusedVariables false
set_option linter.unusedSimpArgs false
def errW : Option Int → Value
 | none => .nilIface
 | some c => .iface 0 (.int .i64 c)
theorem errW_none : errW none = .nilIface := rfl
theorem errW_some (c : Int) : errW (some c) = .iface 0 (.int .i64 c) := rfl
theorem info3 : (Try.prog.info? 3).map (fun i => (i.zero, i.size, i.bytes)) = some (some (.int .i64 0), 1, 8) := by kernel_rfl
theorem info23 : (Try.prog.info? 23).map (fun i => (i.zero, i.size, i.bytes)) = some (some (.slice none 0 0), 1, 24) := by kernel_rfl
theorem info26 : (Try.prog.info? 26).map (fun i => (i.zero, i.size, i.bytes)) = some (some (.agg #[(.int .i64 0), (.int .i64 0), (.string ⟨#[]⟩)]), 3, 32) := by kernel_rfl
theorem info28 : (Try.prog.info? 28).map (fun i => (i.zero, i.size, i.bytes)) = some (some (.agg #[(.string ⟨#[]⟩), (.int .i64 0), (.int .i64 0), (.int .i64 0), (.string ⟨#[]⟩), (.bool false), (.bool false)]), 7, 64) := by kernel_rfl
theorem info64 : (Try.prog.info? 64).map (fun i => (i.zero, i.size, i.bytes)) = some (some (.agg #[(.int .i64 0), (.string ⟨#[]⟩), (.int .i64 0)]), 3, 32) := by kernel_rfl
end Go.Proofs.Ytiicfblccklfhaa.PPF
end
section
namespace Go.Proofs.Ytiicfblccklfhaa.PPF
open Go.RowKit Go.Proofs.YtiicfblccklfhaaW.PrintWords Go.Proofs.YtiicfblccklfhaaW.PrintLast Go.Proofs.YtiicfblccklfhaaW.PrintMore
attribute [local go_sem] max2_int min2_int max_two min_two max_three min_three max_four min_four
open Go.Proofs.Ytiicfblccklfhaa.Ext Go.Proofs.Ytiicfblccklfhaa.PK
set_option linter.unusedVariables false
set_option linter.unusedSimpArgs false
def pred_many.l0 : Nat → Int → List (List (S26)) → Int → Int → Option (Int)
 | 0, _, _, _, _ => none
 | k + 1, x3, x13, x14, x15 => if x15 < x14 then (if 0 ≤ x15 then (if x15 < (x13.length : Int) then (pred_many.l0 k (mn x3 ((rd_L23 x13 x15).length : Int)) x13 x14 (wrap64 (x15 + 1))) else (none)) else (none)) else (some x3)
def pred_many.f (k : Nat) (l0 : List (List (S26))) : Option (Int) := if (l0.length : Int) = 0 then (some 0) else (if 0 < (l0.length : Int) then (pred_many.l0 k ((rd_L23 l0 0).length : Int) l0 (l0.length : Int) 0) else (none))
theorem pred_many.mono_l : ∀ k, (∀ y0 y1 y2 y3, LeO (pred_many.l0 k y0 y1 y2 y3) (pred_many.l0 (k + 1) y0 y1 y2 y3))
 | 0 => fun _ _ _ _ r h => by simp [pred_many.l0] at h
 | k + 1 => by
  have ih0 := pred_many.mono_l k
  ·intro y0 y1 y2 y3
   unfold pred_many.l0
   repeat' first
   | (with_reducible exact ih0 _ _ _ _)
   | (with_reducible exact LeO.refl _)
   | (with_reducible exact LeO.none _)
   | (with_reducible refine LeO.ite ?_ ?_)
   | (with_reducible refine LeO.bind ?_ (fun _ => ?_))
   | exact ih0 _ _ _ _
   | exact LeO.none _
   | refine LeO.ite ?_ ?_
   | refine LeO.bind ?_ (fun _ => ?_)
theorem pred_many.mono : ∀ a0 k, LeO (pred_many.f k a0) (pred_many.f (k + 1) a0) := by
 intro a0 k
 have ih0 := pred_many.mono_l k
 unfold pred_many.f
 repeat' first
   | (with_reducible exact ih0 _ _ _ _)
   | (with_reducible exact LeO.refl _)
   | (with_reducible exact LeO.none _)
   | (with_reducible refine LeO.ite ?_ ?_)
   | (with_reducible refine LeO.bind ?_ (fun _ => ?_))
   | exact ih0 _ _ _ _
   | exact LeO.none _
   | refine LeO.ite ?_ ?_
   | refine LeO.bind ?_ (fun _ => ?_)
set_option maxHeartbeats 8000000 in
set_option maxRecDepth 100000 in
theorem pred_many.calls (k : Nat) (A0 : Option Addr) (c0 : Nat) (l0 : List (List (S26))) (r : Int) (w : World) (hr0 : Kd.C (Kd.slice 26 k26) w A0 l0.length l0) (hc0 : l0.length ≤ c0) (h : pred_many.f k l0 = some r) :
  Calls Try.prog 33 #[.slice A0 l0.length c0] w fun e w' => e = .returned (.int .i64 r) ∧ Below w.heap.size w w' := by
 have HR0 := Aside0.mk hr0
 have HC0 := Aside0.mk hc0
 clear hr0 hc0
 have HB := Aside0.mk (Below.refl w.heap.size w)
 have H : (if (l0.length : Int) = 0 then (some 0) else (if 0 < (l0.length : Int) then (pred_many.l0 k ((rd_L23 l0 0).length : Int) l0 (l0.length : Int) 0) else (none))) = some r := h
 clear h
 by_cases c2 : (l0.length : Int) = 0
 ·rw [if_pos c2] at H
  have c2b0 : ((l0.length : Int) == 0) = true := beq_iff_eq.mpr c2
  have c2b1 : ((l0.length : Int) != 0) = false := bne_eq_false_iff_eq.mpr c2
  clear c2
  obtain rfl := Option.some.inj H
  go_enter Try.func33, Try.ntmps33
  go_wp2
  go_ret
  exact ⟨by first | rfl | (simp [errW_none, errW_some] <;> rfl) | (simp [*, errW_none, errW_some] <;> rfl), by repeat (first | (with_reducible first | exact HB.out | apply below_alloc | apply pw_below_drewN | apply below_drew1) | exact HB.out)⟩
 ·rw [if_neg c2] at H
  have c2b0 : ((l0.length : Int) == 0) = false := beq_eq_false_iff_ne.mpr c2
  have c2b1 : ((l0.length : Int) != 0) = true := bne_iff_ne.mpr c2
  have c2b2 : ¬ (l0 = []) := fun h_ => c2 (by rw [h_]; rfl)
  by_cases c3 : 0 < (l0.length : Int)
  ·rw [if_pos c3] at H
   have c3b0 : decide (0 < (l0.length : Int)) = true := decide_eq_true c3
   have c3b1 : decide (0 < l0.length) = true := decide_eq_true (by omega)
   clear c3
   have H' := Aside0.mk H
   clear H
   have p101 : 0 ≤ (0 : Int) := (by omega)
   have q101 : 0 < (l0.length : Int) := of_decide_eq_true (by first | (with_reducible assumption) | assumption)
   obtain ⟨ad101, A101_0, c101_0, e101, hx101_0, hl101_0, hi101_0⟩ := at_L23 HR0.out 0 p101 q101
   cases e101
   have qi101 : (0 < l0.length) = True := eq_true (by omega)
   (try rw [show ((0 : Int)).toNat = 0 from rfl] at hx101_0)
   (try rw [Addr.add_zero'] at hx101_0)
   have HR101_0 := Aside0.mk hi101_0
   have HC101_0 := Aside0.mk hl101_0
   clear hi101_0 hl101_0
   replace p101 := eq_true p101
   replace q101 := eq_true q101
   go_enter Try.func33, Try.ntmps33
   go_wp2
   go_loopg [3, 15] k (fun kq v3 v15 w' => ∃ (x3_1 : Int) (x15_1 : Int), v3 = .int .i64 x3_1 ∧ v15 = .int .i64 x15_1 ∧ Aside0 (pred_many.l0 kq x3_1 l0 (l0.length : Int) x15_1 = some r) ∧ Aside0 (kq ≤ k) ∧ Aside0 (Below w.heap.size w w'))
   case atStart => exact ⟨(((rd_L23 l0 0).length : Int)), (0), (by first | rfl | (simp; done) | (simp [*]; done)), (by first | rfl | (simp; done) | (simp [*]; done)), H', ⟨Nat.le_refl _⟩, ⟨by repeat (first | (with_reducible first | exact HB.out | apply below_alloc | apply pw_below_drewN | apply below_drew1) | exact HB.out)⟩⟩
   case round =>
    clear H'
    try clear c1
    try clear p1
    try clear q1
    try clear hx1
    try clear qi1
    try clear c2
    try clear c2b0
    try clear c2b1
    try clear c2b2
    try clear p2
    try clear c3
    try clear c3b0
    try clear c3b1
    try clear hx101_0
    try clear p101
    try clear q101
    obtain ⟨x3_1, x15_1, rfl, rfl, HA, HK1, HB⟩ := hrel
    cases gk with
    | zero => exact absurd HA.out (by simp [pred_many.l0])
    | succ k1 =>
     have H := HA.out
     clear HA
     simp only [pred_many.l0] at H
     by_cases c4 : x15_1 < (l0.length : Int)
     ·rw [if_pos c4] at H
      have c4b0 : decide (x15_1 < (l0.length : Int)) = true := decide_eq_true c4
      clear c4
      by_cases c5 : 0 ≤ x15_1
      ·rw [if_pos c5] at H
       have c5b0 : decide (0 ≤ x15_1) = true := decide_eq_true c5
       clear c5
       by_cases c6 : x15_1 < (l0.length : Int)
       ·rw [if_pos c6] at H
        have c6b0 : decide (x15_1 < (l0.length : Int)) = true := decide_eq_true c6
        clear c6
        obtain ⟨ji7, hji7⟩ : ∃ j_ : Int, (mn x3_1 ((rd_L23 l0 x15_1).length : Int)) = j_ := ⟨_, rfl⟩
        replace H : (pred_many.l0 k1 ji7 l0 (l0.length : Int) (wrap64 (x15_1 + 1))) = some r := by first | (rw [hji7] at H; exact H) | (simp only [hji7] at H ⊢; exact H)
        have hji7_ : (if ((rd_L23 l0 x15_1).length : Int) < x3_1 then ((rd_L23 l0 x15_1).length : Int) else x3_1) = ji7 := hji7
        have H' := Aside0.mk H
        clear H
        have p102 : 0 ≤ (x15_1 : Int) := of_decide_eq_true (by first | (with_reducible assumption) | assumption)
        have q102 : x15_1 < (l0.length : Int) := of_decide_eq_true (by first | (with_reducible assumption) | assumption)
        obtain ⟨ad102, A102_0, c102_0, e102, hx102_0, hl102_0, hi102_0⟩ := at_L23 HR0.out x15_1 p102 q102
        obtain rfl : ad101 = ad102 := (by injection e102)
        replace hx102_0 := (HB.out.cell (World.block_lt_of_cell? w _ hx102_0)).trans hx102_0
        have HR102_0 := Aside0.mk hi102_0
        have HC102_0 := Aside0.mk hl102_0
        clear hi102_0 hl102_0
        replace p102 := eq_true p102
        replace q102 := eq_true q102
        go_wp2
        go_roundg k1
        case measure => have := HK1.out; omega
        case rel => exact ⟨(ji7), (wrap64 (x15_1 + 1)), (by first | rfl | (simp; done) | (simp only [← hji7] <;> (first | rfl | simp)) | (simp [*]; done)), (by first | rfl | (simp; done) | (simp [*]; done)), H', ⟨by have := HK1.out; omega⟩, ⟨by repeat (first | (with_reducible first | exact HB.out | apply below_alloc | apply pw_below_drewN | apply below_drew1) | exact HB.out)⟩⟩
       ·rw [if_neg c6] at H
        exact absurd H (by simp)
      ·rw [if_neg c5] at H
       exact absurd H (by simp)
     ·rw [if_neg c4] at H
      have c4b0 : decide (x15_1 < (l0.length : Int)) = false := decide_eq_false c4
      clear c4
      obtain rfl := Option.some.inj H
      go_wp2
      go_ret
      exact ⟨by first | rfl | (simp [errW_none, errW_some] <;> rfl) | (simp [*, errW_none, errW_some] <;> rfl), by repeat (first | (with_reducible first | exact HB.out | apply below_alloc | apply pw_below_drewN | apply below_drew1) | exact HB.out)⟩
  ·rw [if_neg c3] at H
   exact absurd H (by simp)
mutual
def pred_Rows.l0 : Nat → List (S28) → List (List (S26)) → List Int → Int → Int → List (S64) → Int → Option (List Int)
 | 0, _, _, _, _, _, _, _ => none
 | k + 1, x1, x2, x6, x12, x13, x104000, x104001 => if x13 < x12 then (pred_Rows.l1 k x1 x2 x6 x13 ([] : List (S26)) x12 x13 x2 (x2.length : Int) 0 x104000 x104001) else (some x6)
def pred_Rows.l1 : Nat → List (S28) → List (List (S26)) → List Int → Int → List (S26) → Int → Int → List (List (S26)) → Int → Int → List (S64) → Int → Option (List Int)
 | 0, _, _, _, _, _, _, _, _, _, _, _, _ => none
 | k + 1, x1, x2, x6, x7, x8, x12, x13, x16, x17, x18, x104000, x104001 => if x18 < x17 then (if 0 ≤ x18 then (if x18 < (x16.length : Int) then (if 0 ≤ x7 then (if x7 < ((rd_L23 x16 x18).length : Int) then (if x8.length < 4398046511104 then (pred_Rows.l1 k x1 x2 x6 x7 (x8 ++ [(⟨(rd_T26 (rd_L23 x16 x18) x7).f0, (rd_T26 (rd_L23 x16 x18) x7).f1, (rd_T26 (rd_L23 x16 x18) x7).f2⟩ : S26)]) x12 x13 x16 x17 (wrap64 (x18 + 1)) x104000 x104001) else (none)) else (none)) else (none)) else (none)) else (none)) else ((pred_Row.f k x104000 x104001 x1 x8).bind fun t110 => (if t110 = 2 then (if x6.length < 17592186044416 then (pred_Rows.l0 k x1 x2 (x6 ++ [x7]) x12 (wrap64 (x13 + 1)) x104000 x104001) else (none)) else (pred_Rows.l0 k x1 x2 x6 x12 (wrap64 (x13 + 1)) x104000 x104001)))
end
def pred_Rows.f (k : Nat) (l0_0 : List (S64)) (a0_1 : Int) (l1 : List (S28)) (l2 : List (List (S26))) : Option (List Int) := (pred_many.f k l2).bind fun t104 => (pred_Rows.l0 k l1 l2 ([] : List Int) t104 0 l0_0 a0_1)
theorem pred_Rows.mono_l : ∀ k, (∀ y0 y1 y2 y3 y4 y5 y6, LeO (pred_Rows.l0 k y0 y1 y2 y3 y4 y5 y6) (pred_Rows.l0 (k + 1) y0 y1 y2 y3 y4 y5 y6)) ∧ (∀ y0 y1 y2 y3 y4 y5 y6 y7 y8 y9 y10 y11, LeO (pred_Rows.l1 k y0 y1 y2 y3 y4 y5 y6 y7 y8 y9 y10 y11) (pred_Rows.l1 (k + 1) y0 y1 y2 y3 y4 y5 y6 y7 y8 y9 y10 y11))
 | 0 => ⟨fun _ _ _ _ _ _ _ r h => by simp [pred_Rows.l0] at h, fun _ _ _ _ _ _ _ _ _ _ _ _ r h => by simp [pred_Rows.l1] at h⟩
 | k + 1 => by
  obtain ⟨ih0, ih1⟩ := pred_Rows.mono_l k
  refine ⟨?_, ?_⟩
  ·intro y0 y1 y2 y3 y4 y5 y6
   unfold pred_Rows.l0
   repeat' first
   | (with_reducible exact ih0 _ _ _ _ _ _ _)
   | (with_reducible exact ih1 _ _ _ _ _ _ _ _ _ _ _ _)
   | (with_reducible exact pred_Row.mono _ _ _ _ _)
   | (with_reducible exact pred_many.mono _ _)
   | (with_reducible exact LeO.refl _)
   | (with_reducible exact LeO.none _)
   | (with_reducible refine LeO.ite ?_ ?_)
   | (with_reducible refine LeO.bind ?_ (fun _ => ?_))
   | exact ih0 _ _ _ _ _ _ _
   | exact ih1 _ _ _ _ _ _ _ _ _ _ _ _
   | exact pred_Row.mono _ _ _ _ _
   | exact pred_many.mono _ _
   | exact LeO.none _
   | refine LeO.ite ?_ ?_
   | refine LeO.bind ?_ (fun _ => ?_)
  ·intro y0 y1 y2 y3 y4 y5 y6 y7 y8 y9 y10 y11
   unfold pred_Rows.l1
   repeat' first
   | (with_reducible exact ih0 _ _ _ _ _ _ _)
   | (with_reducible exact ih1 _ _ _ _ _ _ _ _ _ _ _ _)
   | (with_reducible exact pred_Row.mono _ _ _ _ _)
   | (with_reducible exact pred_many.mono _ _)
   | (with_reducible exact LeO.refl _)
   | (with_reducible exact LeO.none _)
   | (with_reducible refine LeO.ite ?_ ?_)
   | (with_reducible refine LeO.bind ?_ (fun _ => ?_))
   | exact ih0 _ _ _ _ _ _ _
   | exact ih1 _ _ _ _ _ _ _ _ _ _ _ _
   | exact pred_Row.mono _ _ _ _ _
   | exact pred_many.mono _ _
   | exact LeO.none _
   | refine LeO.ite ?_ ?_
   | refine LeO.bind ?_ (fun _ => ?_)
theorem pred_Rows.mono : ∀ a0 a1 a2 a3 k, LeO (pred_Rows.f k a0 a1 a2 a3) (pred_Rows.f (k + 1) a0 a1 a2 a3) := by
 intro a0 a1 a2 a3 k
 obtain ⟨ih0, ih1⟩ := pred_Rows.mono_l k
 unfold pred_Rows.f
 repeat' first
   | (with_reducible exact ih0 _ _ _ _ _ _ _)
   | (with_reducible exact ih1 _ _ _ _ _ _ _ _ _ _ _ _)
   | (with_reducible exact pred_Row.mono _ _ _ _ _)
   | (with_reducible exact pred_many.mono _ _)
   | (with_reducible exact LeO.refl _)
   | (with_reducible exact LeO.none _)
   | (with_reducible refine LeO.ite ?_ ?_)
   | (with_reducible refine LeO.bind ?_ (fun _ => ?_))
   | exact ih0 _ _ _ _ _ _ _
   | exact ih1 _ _ _ _ _ _ _ _ _ _ _ _
   | exact pred_Row.mono _ _ _ _ _
   | exact pred_many.mono _ _
   | exact LeO.none _
   | refine LeO.ite ?_ ?_
   | refine LeO.bind ?_ (fun _ => ?_)
set_option maxHeartbeats 8000000 in
set_option maxRecDepth 100000 in
theorem pred_Rows.calls (k : Nat) (A0_0 : Option Addr) (c0_0 : Nat) (l0_0 : List (S64)) (a0_1 : Int) (A1 : Option Addr) (c1 : Nat) (l1 : List (S28)) (A2 : Option Addr) (c2 : Nat) (l2 : List (List (S26))) (r : List Int) (w : World) (hr0_0 : Kd.C k64 w A0_0 l0_0.length l0_0) (hc0_0 : l0_0.length ≤ c0_0) (hr1 : Kd.C k28 w A1 l1.length l1) (hc1 : l1.length ≤ c1) (hr2 : Kd.C (Kd.slice 26 k26) w A2 l2.length l2) (hc2 : l2.length ≤ c2) (h : pred_Rows.f k l0_0 a0_1 l1 l2 = some r) :
  Calls Try.prog 15 #[.agg #[.slice A0_0 l0_0.length c0_0, .int .i64 a0_1], .slice A1 l1.length c1, .slice A2 l2.length c2] w fun e w' => ∃ v0_ : Value, e = .returned (v0_) ∧ Kd.R (Kd.int .i64) 3 w' w.heap.size (fun _ => True) v0_ r ∧ Below w.heap.size w w' := by
 have hu33 := Try.underlying33
 have hu26 := Try.underlying26
 have HR0_0 := Aside0.mk hr0_0
 have HC0_0 := Aside0.mk hc0_0
 clear hr0_0 hc0_0
 have HR1 := Aside0.mk hr1
 have HC1 := Aside0.mk hc1
 clear hr1 hc1
 have HR2 := Aside0.mk hr2
 have HC2 := Aside0.mk hc2
 clear hr2 hc2
 have HB := Aside0.mk (Below.refl w.heap.size w)
 have H : ((pred_many.f k l2).bind fun t104 => (pred_Rows.l0 k l1 l2 ([] : List Int) t104 0 l0_0 a0_1)) = some r := h
 clear h
 replace H := Option.bind_eq_some_iff.mp H
 obtain ⟨t104, A40, H⟩ := H
 replace H : (pred_Rows.l0 k l1 l2 ([] : List Int) t104 0 l0_0 a0_1) = some r := H
 have A4 := Aside0.mk A40
 clear A40
 have H' := Aside0.mk H
 clear H
 go_enter Try.func15, Try.ntmps15
 go_wp2_with (first | ((with_reducible refine gate_dst (N := 3) rfl ?_); refine box_event ?hg (N := 3) ?hd (cs := #[.slice A0_0 l0_0.length c0_0, .int .i64 a0_1]) (t := 33) ?hr ?_; (case hd => rfl); (case hg => rfl); (case hr => first | (go_simp; done) | (go_simp; rfl)); intro gb103 hg w5 hbox hb; have n0_ := qS HB hb; have n1_ := Aside0.mk (hbox); have n2_ := Aside0.mk ((by rw [hg]; exact (qZ HB) : w.heap.size ≤ gb103)); have n3_ := Aside0.mk ((by rw [hg]; exact (qZ HB) : w.heap.size ≤ gb103)); clear HB; have HB := n0_; have BK103 := n1_; have GW103 := n2_; have GE103 := n3_; clear n0_ n1_ n2_ n3_; clear hb hbox hg) | ((with_reducible refine gate_callee (f := 33) rfl ?_); refine goesL_ (some 12) rfl rfl Try.func33 (by kernel_rfl) rfl #[.slice A2 l2.length c2] rfl (by (try simp only [List.map_toArray, List.map_cons, List.map_nil]); first | done | rfl | (simp only [List.length_drop, List.length_take]; rfl)) ?_; (with_reducible refine (pred_many.calls k _ _ l2 t104 _ ?side1 ?side2 A4.out).mono ?_); (case side1 => repeat (first | exact (Kd.C_below HR2.out HB.out) | (with_reducible refine Kd.C_alloc ?_ _) | (with_reducible refine Kd.C_drewN ?_ _) | (with_reducible refine Kd.C_drew ?_))); (case side2 => exact HC2.out); rintro e w6 ⟨rfl, hb⟩; refine ⟨_, rfl, ?_⟩; have n0_ := qB BK103 hb; have n1_ := qS HB hb; clear BK103; clear HB; have BK103 := n0_; have HB := n1_; clear n0_ n1_; (try clear hb); (try clear hb2); (try clear hk); (try clear hi)))
 go_loopg [6, 13] k (fun kq v6 v13 w' => ∃ (x6_1 : List Int) (x13_1 : Int), v13 = .int .i64 x13_1 ∧ Aside0 (pred_Rows.l0 kq l1 l2 x6_1 t104 x13_1 l0_0 a0_1 = some r) ∧ Aside0 (kq ≤ k) ∧ Aside0 (Kd.R (Kd.int .i64) 3 w' w.heap.size (fun _ => True) v6 x6_1) ∧ Aside0 (w'.heap[gb103]? = some (.cells #[(.slice A0_0 l0_0.length c0_0), .int .i64 a0_1] 33 (0, 0))) ∧ Aside0 (Below w.heap.size w w'))
 case atStart => exact ⟨(([] : List Int)), (0), (by first | rfl | (simp; done) | (simp [*]; done)), H', ⟨Nat.le_refl _⟩, ⟨by first | exact Kd.R_nil _ _ _ _ _ | exact Kd.N_nil _ _ _ _ _ | exact Kd.V_nil _ _ _ _ _ | exact Kd.Q_nil _ _ _ _ _ | exact Kd.S_nil _ _ _ _ _⟩, ⟨qA BK103⟩, ⟨by repeat (first | (with_reducible first | exact HB.out | apply below_alloc | apply pw_below_drewN | apply below_drew1 | refine below_set ?_ GE103.out) | exact HB.out)⟩⟩
 case round =>
  clear H'
  try clear c1
  try clear c2
  try clear p2
  try clear c3
  obtain ⟨x6_1, x13_1, rfl, HA, HK1, HO_6, BK103, HB⟩ := hrel
  cases gk with
  | zero => exact absurd HA.out (by simp [pred_Rows.l0])
  | succ k1 =>
   have H := HA.out
   clear HA
   simp only [pred_Rows.l0] at H
   by_cases c7 : x13_1 < t104
   ·rw [if_pos c7] at H
    have c7b0 : decide (x13_1 < t104) = true := decide_eq_true c7
    clear c7
    have H' := Aside0.mk H
    clear H
    go_wp2
    go_loopg [8, 18] k1 (fun kq v8 v18 w' => ∃ (x8_2 : List (S26)) (x18_2 : Int), v18 = .int .i64 x18_2 ∧ Aside0 (pred_Rows.l1 kq l1 l2 x6_1 x13_1 x8_2 t104 x13_1 l2 (l2.length : Int) x18_2 l0_0 a0_1 = some r) ∧ Aside0 (kq ≤ k1) ∧ Aside0 (Kd.R (Kd.int .i64) 3 w' w.heap.size (fun _ => True) u6 x6_1) ∧ Aside0 (Kd.R k26 26 w' w.heap.size (fun _ => True) v8 x8_2) ∧ Aside0 (w'.heap[gb103]? = some (.cells #[(.slice A0_0 l0_0.length c0_0), .int .i64 a0_1] 33 (0, 0))) ∧ Aside0 (Below w.heap.size w w'))
    case atStart => exact ⟨(([] : List (S26))), (0), (by first | rfl | (simp; done) | (simp [*]; done)), H', ⟨Nat.le_refl _⟩, ⟨by (with_reducible repeat (first | apply Kd.R_alloc | apply Kd.R_drewN | apply Kd.R_drew)); exact HO_6.out⟩, ⟨by first | exact Kd.R_nil _ _ _ _ _ | exact Kd.N_nil _ _ _ _ _ | exact Kd.V_nil _ _ _ _ _ | exact Kd.Q_nil _ _ _ _ _ | exact Kd.S_nil _ _ _ _ _⟩, ⟨qA BK103⟩, ⟨by repeat (first | (with_reducible first | exact HB.out | apply below_alloc | apply pw_below_drewN | apply below_drew1 | refine below_set ?_ GE103.out) | exact HB.out)⟩⟩
    case round =>
     clear H'
     try clear c1
     try clear c2
     try clear p2
     try clear c3
     try clear c7
     try clear c7b0
     try clear p2
     obtain ⟨x8_2, x18_2, rfl, HA, HK2, HO_6, HO_8, BK103, HB⟩ := hrel
     cases gk with
     | zero => exact absurd HA.out (by simp [pred_Rows.l1])
     | succ k2 =>
      have H := HA.out
      clear HA
      simp only [pred_Rows.l1] at H
      by_cases c8 : x18_2 < (l2.length : Int)
      ·rw [if_pos c8] at H
       have c8b0 : decide (x18_2 < (l2.length : Int)) = true := decide_eq_true c8
       clear c8
       by_cases c9 : 0 ≤ x18_2
       ·rw [if_pos c9] at H
        have c9b0 : decide (0 ≤ x18_2) = true := decide_eq_true c9
        clear c9
        by_cases c10 : x18_2 < (l2.length : Int)
        ·rw [if_pos c10] at H
         have c10b0 : decide (x18_2 < (l2.length : Int)) = true := decide_eq_true c10
         clear c10
         by_cases c11 : 0 ≤ x13_1
         ·rw [if_pos c11] at H
          have c11b0 : decide (0 ≤ x13_1) = true := decide_eq_true c11
          clear c11
          by_cases c12 : x13_1 < ((rd_L23 l2 x18_2).length : Int)
          ·rw [if_pos c12] at H
           have c12b0 : decide (x13_1 < ((rd_L23 l2 x18_2).length : Int)) = true := decide_eq_true c12
           clear c12
           by_cases c13 : x8_2.length < 4398046511104
           ·rw [if_pos c13] at H
            have LMc13 := Aside0.mk c13
            clear c13
            obtain ⟨y107, hy107⟩ : ∃ y_ : List (S26), y_ = (x8_2 ++ [(⟨(rd_T26 (rd_L23 l2 x18_2) x13_1).f0, (rd_T26 (rd_L23 l2 x18_2) x13_1).f1, (rd_T26 (rd_L23 l2 x18_2) x13_1).f2⟩ : S26)]) := ⟨_, rfl⟩
            replace H : (pred_Rows.l1 k2 l1 l2 x6_1 x13_1 y107 t104 x13_1 l2 (l2.length : Int) (wrap64 (x18_2 + 1)) l0_0 a0_1) = some r := by first | (rw [hy107]; with_reducible exact H) | (have H2_ := (Option.bind_some _ _).symm.trans H; rw [hy107]; with_reducible exact H2_) | (have H2_ := (Option.bind_some _ _).symm.trans H; with_reducible exact H2_) | with_reducible exact H | (rw [hy107]; exact H) | exact H
            have Ny107 := Aside0.mk hy107
            clear hy107
            have H' := Aside0.mk H
            clear H
            have p105 : 0 ≤ (x18_2 : Int) := of_decide_eq_true (by first | (with_reducible assumption) | assumption)
            have q105 : x18_2 < (l2.length : Int) := of_decide_eq_true (by first | (with_reducible assumption) | assumption)
            obtain ⟨ad105, A105_0, c105_0, e105, hx105_0, hl105_0, hi105_0⟩ := at_L23 HR2.out x18_2 p105 q105
            cases e105
            replace hx105_0 := (HB.out.cell (World.block_lt_of_cell? w _ hx105_0)).trans hx105_0
            have HR105_0 := Aside0.mk hi105_0
            have HC105_0 := Aside0.mk hl105_0
            clear hi105_0 hl105_0
            replace p105 := eq_true p105
            replace q105 := eq_true q105
            have p106 : 0 ≤ (x13_1 : Int) := of_decide_eq_true (by first | (with_reducible assumption) | assumption)
            have q106 : x13_1 < ((rd_L23 l2 x18_2).length : Int) := of_decide_eq_true (by first | (with_reducible assumption) | assumption)
            obtain ⟨ad106, e106, hx106_0, hx106_1, hx106_2⟩ := at_T26 HR105_0.out x13_1 p106 q106
            cases e106
            replace hx106_0 := (HB.out.cell (World.block_lt_of_cell? w _ hx106_0)).trans hx106_0
            replace hx106_1 := (HB.out.cell (World.block_lt_of_cell? w _ hx106_1)).trans hx106_1
            replace hx106_2 := (HB.out.cell (World.block_lt_of_cell? w _ hx106_2)).trans hx106_2
            replace p106 := eq_true p106
            replace q106 := eq_true q106
            go_wp2_with (first | ((with_reducible refine gate_builtin (b := .append) (xs := #[.tmp 22, .tmp 27]) rfl ?_); at_builtin; refine Kd.R_append k26 (w0 := w) w.heap.size rfl (.tmp 22) (.tmp 27) 56 26 (.agg #[(.int .i64 0), (.int .i64 0), (.string ⟨#[]⟩)]) 32 rfl Try.underlying56 info26 rfl (by decide) (by omega) u8 x8_2 (⟨(rd_T26 (rd_L23 l2 x18_2) x13_1).f0, (rd_T26 (rd_L23 l2 x18_2) x13_1).f1, (rd_T26 (rd_L23 l2 x18_2) x13_1).f2⟩ : S26) [.int .i64 ((rd_T26 (rd_L23 l2 x18_2) x13_1).f0), .int .i64 ((rd_T26 (rd_L23 l2 x18_2) x13_1).f1), .string ((rd_T26 (rd_L23 l2 x18_2) x13_1).f2)] (fun _ => True) (fun _ => False) rfl rfl ?aP (fun _ hk => hk.elim) ?aF ?aO ?aB ?aS ?aL ?_; (case aP => exact k26_mkM _ _ _ (⟨(rd_T26 (rd_L23 l2 x18_2) x13_1).f0, (rd_T26 (rd_L23 l2 x18_2) x13_1).f1, (rd_T26 (rd_L23 l2 x18_2) x13_1).f2⟩ : S26)); (case aB => exact (by repeat (first | (with_reducible first | exact HB.out | apply below_alloc | apply pw_below_drewN | apply below_drew1 | refine below_set ?_ GE103.out) | exact HB.out))); (case aF => exact (fun _ _ => trivial)); (case aO => exact (by (with_reducible repeat (first | apply Kd.R_alloc | apply Kd.R_drewN | apply Kd.R_drew)); exact HO_8.out)); (case aS => exact (qZ HB)); (case aL => have := LMc13.out; omega); intro v108 w14 ho hb hg hat; rw [← Ny107.out] at ho; have n0_ := Aside0.mk (Kd.R_over' (by (with_reducible repeat (first | apply Kd.R_alloc | apply Kd.R_drewN | apply Kd.R_drew)); exact HO_6.out) (Kd.R_typed (by (with_reducible repeat (first | apply Kd.R_alloc | apply Kd.R_drewN | apply Kd.R_drew)); exact HO_8.out)) (by decide) hg); have n1_ := Aside0.mk (blk_grown (g := gb103) (o := .cells #[.slice A0_0 l0_0.length c0_0, .int .i64 a0_1] 33 (0, 0)) (qA BK103) hg (Kd.R_ne HO_8.out BK103.out (by decide))); have n2_ := Aside0.mk (hb); have n3_ := Aside0.mk (ho); clear HO_6; clear BK103; clear HB; clear HO_8; have HO_6 := n0_; have BK103 := n1_; have HB := n2_; have HO109 := n3_; clear n0_ n1_ n2_ n3_; clear ho hb hg hat))
            go_roundg k2
            case measure => have := HK1.out; have := HK2.out; omega
            case rel => exact ⟨(y107), (wrap64 (x18_2 + 1)), (by first | rfl | (simp; done) | (simp [*]; done)), H', ⟨by have := HK1.out; have := HK2.out; omega⟩, ⟨by (with_reducible repeat (first | apply Kd.R_alloc | apply Kd.R_drewN | apply Kd.R_drew)); exact HO_6.out⟩, ⟨by (with_reducible repeat (first | apply Kd.R_alloc | apply Kd.R_drewN | apply Kd.R_drew)); exact HO109.out⟩, ⟨qA BK103⟩, ⟨by repeat (first | (with_reducible first | exact HB.out | apply below_alloc | apply pw_below_drewN | apply below_drew1 | refine below_set ?_ GE103.out) | exact HB.out)⟩⟩
           ·rw [if_neg c13] at H
            exact absurd H (by simp)
          ·rw [if_neg c12] at H
           exact absurd H (by simp)
         ·rw [if_neg c11] at H
          exact absurd H (by simp)
        ·rw [if_neg c10] at H
         exact absurd H (by simp)
       ·rw [if_neg c9] at H
        exact absurd H (by simp)
      ·rw [if_neg c8] at H
       have c8b0 : decide (x18_2 < (l2.length : Int)) = false := decide_eq_false c8
       clear c8
       replace H := Option.bind_eq_some_iff.mp H
       obtain ⟨t110, A150, H⟩ := H
       replace H : (if t110 = 2 then (if x6_1.length < 17592186044416 then (pred_Rows.l0 k2 l1 l2 (x6_1 ++ [x13_1]) t104 (wrap64 (x13_1 + 1)) l0_0 a0_1) else (none)) else (pred_Rows.l0 k2 l1 l2 x6_1 t104 (wrap64 (x13_1 + 1)) l0_0 a0_1)) = some r := H
       have A15 := Aside0.mk A150
       clear A150
       by_cases c16 : t110 = 2
       ·rw [if_pos c16] at H
        have c16b0 : (t110 == 2) = true := beq_iff_eq.mpr c16
        have c16b1 : (t110 != 2) = false := bne_eq_false_iff_eq.mpr c16
        clear c16
        by_cases c17 : x6_1.length < 17592186044416
        ·rw [if_pos c17] at H
         have LMc17 := Aside0.mk c17
         clear c17
         obtain ⟨y111, hy111⟩ : ∃ y_ : List Int, y_ = (x6_1 ++ [x13_1]) := ⟨_, rfl⟩
         replace H : (pred_Rows.l0 k2 l1 l2 y111 t104 (wrap64 (x13_1 + 1)) l0_0 a0_1) = some r := by first | (rw [hy111]; with_reducible exact H) | (have H2_ := (Option.bind_some _ _).symm.trans H; rw [hy111]; with_reducible exact H2_) | (have H2_ := (Option.bind_some _ _).symm.trans H; with_reducible exact H2_) | with_reducible exact H | (rw [hy111]; exact H) | exact H
         have Ny111 := Aside0.mk hy111
         clear hy111
         have H' := Aside0.mk H
         clear H
         have hcz18_0 : wr.cell? ⟨gb103, 0, none⟩ = some (.slice A0_0 l0_0.length c0_0) := (blk_cell BK103.out 0).trans rfl
         have hcz18_1 : wr.cell? ⟨gb103, 1, none⟩ = some (.int .i64 a0_1) := (blk_cell BK103.out 1).trans rfl
         have hfz18_0 := blk_frozen BK103.out 0
         have hfz18_1 := blk_frozen BK103.out 1
         obtain ⟨Ao19, co19, eo19⟩ := Kd.R_slice HO_8.out
         subst eo19
         go_wp2_with (first | ((with_reducible refine gate_callee (f := 17) rfl ?_); refine goesL_ (some 33) rfl rfl Try.func17 (by kernel_rfl) rfl #[.agg #[.slice A0_0 l0_0.length c0_0, .int .i64 a0_1], .slice A1 l1.length c1, .slice Ao19 x8_2.length co19] rfl (by (try simp only [List.map_toArray, List.map_cons, List.map_nil]); first | done | rfl | (simp only [List.length_drop, List.length_take]; rfl)) ?_; (with_reducible refine (pred_Row.calls k2 _ _ l0_0 a0_1 _ _ l1 _ _ x8_2 t110 _ ?side1 ?side2 ?side3 ?side4 ?side5 ?side6 A15.out).mono ?_); (case side1 => repeat (first | exact (Kd.C_below HR0_0.out HB.out) | (with_reducible refine Kd.C_alloc ?_ _) | (with_reducible refine Kd.C_drewN ?_ _) | (with_reducible refine Kd.C_drew ?_))); (case side2 => exact HC0_0.out); (case side3 => repeat (first | exact (Kd.C_below HR1.out HB.out) | (with_reducible refine Kd.C_alloc ?_ _) | (with_reducible refine Kd.C_drewN ?_ _) | (with_reducible refine Kd.C_drew ?_))); (case side4 => exact HC1.out); (case side5 => repeat (first | exact (Kd.R_reads' HO_8.out).2.2 | (with_reducible refine Kd.C_alloc ?_ _) | (with_reducible refine Kd.C_drewN ?_ _) | (with_reducible refine Kd.C_drew ?_))); (case side6 => exact (Kd.R_reads' HO_8.out).2.1); rintro e w20 ⟨rfl, hb⟩; refine ⟨_, rfl, ?_⟩; have n0_ := qR HO_6 hb; have n1_ := qR HO_8 hb; have n2_ := qB BK103 hb; have n3_ := qS HB hb; clear HO_6; clear HO_8; clear BK103; clear HB; have HO_6 := n0_; have HO_8 := n1_; have BK103 := n2_; have HB := n3_; clear n0_ n1_ n2_ n3_; (try clear hb); (try clear hb2); (try clear hk); (try clear hi)) | ((with_reducible refine gate_builtin (b := .append) (xs := #[.tmp 35, .tmp 37]) rfl ?_); at_builtin; refine Kd.R_append (Kd.int .i64) (w0 := w) w.heap.size rfl (.tmp 35) (.tmp 37) 34 3 (.int .i64 0) 8 rfl Try.underlying34 info3 rfl (by decide) (by omega) u6 x6_1 x13_1 [.int .i64 x13_1] (fun _ => True) (fun _ => False) rfl rfl ?aP (fun _ hk => hk.elim) ?aF ?aO ?aB ?aS ?aL ?_; (case aP => exact rfl); (case aB => exact (by repeat (first | (with_reducible first | exact HB.out | apply below_alloc | apply pw_below_drewN | apply below_drew1 | refine below_set ?_ GE103.out) | exact HB.out))); (case aF => exact (fun _ _ => trivial)); (case aO => exact (by (with_reducible repeat (first | apply Kd.R_alloc | apply Kd.R_drewN | apply Kd.R_drew)); exact HO_6.out)); (case aS => exact (qZ HB)); (case aL => have := LMc17.out; omega); intro v112 w21 ho hb hg hat; rw [← Ny111.out] at ho; have n0_ := Aside0.mk (Kd.R_over' (by (with_reducible repeat (first | apply Kd.R_alloc | apply Kd.R_drewN | apply Kd.R_drew)); exact HO_8.out) (Kd.R_typed (by (with_reducible repeat (first | apply Kd.R_alloc | apply Kd.R_drewN | apply Kd.R_drew)); exact HO_6.out)) (by decide) hg); have n1_ := Aside0.mk (blk_grown (g := gb103) (o := .cells #[.slice A0_0 l0_0.length c0_0, .int .i64 a0_1] 33 (0, 0)) (qA BK103) hg (Kd.R_ne HO_6.out BK103.out (by decide))); have n2_ := Aside0.mk (hb); have n3_ := Aside0.mk (ho); clear HO_8; clear BK103; clear HB; clear HO_6; have HO_8 := n0_; have BK103 := n1_; have HB := n2_; have HO113 := n3_; clear n0_ n1_ n2_ n3_; clear ho hb hg hat))
         go_roundg k2
         case measure => have := HK1.out; have := HK2.out; omega
         case rel => exact ⟨(y111), (wrap64 (x13_1 + 1)), (by first | rfl | (simp; done) | (simp [*]; done)), H', ⟨by have := HK1.out; have := HK2.out; omega⟩, ⟨by (with_reducible repeat (first | apply Kd.R_alloc | apply Kd.R_drewN | apply Kd.R_drew)); exact HO113.out⟩, ⟨qA BK103⟩, ⟨by repeat (first | (with_reducible first | exact HB.out | apply below_alloc | apply pw_below_drewN | apply below_drew1 | refine below_set ?_ GE103.out) | exact HB.out)⟩⟩
        ·rw [if_neg c17] at H
         exact absurd H (by simp)
       ·rw [if_neg c16] at H
        have c16b0 : (t110 == 2) = false := beq_eq_false_iff_ne.mpr c16
        have c16b1 : (t110 != 2) = true := bne_iff_ne.mpr c16
        have H' := Aside0.mk H
        clear H
        have hcz22_0 : wr.cell? ⟨gb103, 0, none⟩ = some (.slice A0_0 l0_0.length c0_0) := (blk_cell BK103.out 0).trans rfl
        have hcz22_1 : wr.cell? ⟨gb103, 1, none⟩ = some (.int .i64 a0_1) := (blk_cell BK103.out 1).trans rfl
        have hfz22_0 := blk_frozen BK103.out 0
        have hfz22_1 := blk_frozen BK103.out 1
        obtain ⟨Ao23, co23, eo23⟩ := Kd.R_slice HO_8.out
        subst eo23
        go_wp2_with (first | ((with_reducible refine gate_callee (f := 17) rfl ?_); refine goesL_ (some 33) rfl rfl Try.func17 (by kernel_rfl) rfl #[.agg #[.slice A0_0 l0_0.length c0_0, .int .i64 a0_1], .slice A1 l1.length c1, .slice Ao23 x8_2.length co23] rfl (by (try simp only [List.map_toArray, List.map_cons, List.map_nil]); first | done | rfl | (simp only [List.length_drop, List.length_take]; rfl)) ?_; (with_reducible refine (pred_Row.calls k2 _ _ l0_0 a0_1 _ _ l1 _ _ x8_2 t110 _ ?side1 ?side2 ?side3 ?side4 ?side5 ?side6 A15.out).mono ?_); (case side1 => repeat (first | exact (Kd.C_below HR0_0.out HB.out) | (with_reducible refine Kd.C_alloc ?_ _) | (with_reducible refine Kd.C_drewN ?_ _) | (with_reducible refine Kd.C_drew ?_))); (case side2 => exact HC0_0.out); (case side3 => repeat (first | exact (Kd.C_below HR1.out HB.out) | (with_reducible refine Kd.C_alloc ?_ _) | (with_reducible refine Kd.C_drewN ?_ _) | (with_reducible refine Kd.C_drew ?_))); (case side4 => exact HC1.out); (case side5 => repeat (first | exact (Kd.R_reads' HO_8.out).2.2 | (with_reducible refine Kd.C_alloc ?_ _) | (with_reducible refine Kd.C_drewN ?_ _) | (with_reducible refine Kd.C_drew ?_))); (case side6 => exact (Kd.R_reads' HO_8.out).2.1); rintro e w24 ⟨rfl, hb⟩; refine ⟨_, rfl, ?_⟩; have n0_ := qR HO_6 hb; have n1_ := qR HO_8 hb; have n2_ := qB BK103 hb; have n3_ := qS HB hb; clear HO_6; clear HO_8; clear BK103; clear HB; have HO_6 := n0_; have HO_8 := n1_; have BK103 := n2_; have HB := n3_; clear n0_ n1_ n2_ n3_; (try clear hb); (try clear hb2); (try clear hk); (try clear hi)))
        go_roundg k2
        case measure => have := HK1.out; have := HK2.out; omega
        case rel => exact ⟨(x6_1), (wrap64 (x13_1 + 1)), (by first | rfl | (simp; done) | (simp [*]; done)), H', ⟨by have := HK1.out; have := HK2.out; omega⟩, ⟨by (with_reducible repeat (first | apply Kd.R_alloc | apply Kd.R_drewN | apply Kd.R_drew)); exact HO_6.out⟩, ⟨qA BK103⟩, ⟨by repeat (first | (with_reducible first | exact HB.out | apply below_alloc | apply pw_below_drewN | apply below_drew1 | refine below_set ?_ GE103.out) | exact HB.out)⟩⟩
   ·rw [if_neg c7] at H
    have c7b0 : decide (x13_1 < t104) = false := decide_eq_false c7
    clear c7
    obtain rfl := Option.some.inj H
    go_wp2
    go_ret
    exact ⟨_, by first | rfl | (simp [errW_none, errW_some] <;> rfl) | (simp [*, errW_none, errW_some] <;> rfl), by (with_reducible repeat (first | apply Kd.R_alloc | apply Kd.R_drewN | apply Kd.R_drew)); exact HO_6.out, by repeat (first | (with_reducible first | exact HB.out | apply below_alloc | apply pw_below_drewN | apply below_drew1 | refine below_set ?_ GE103.out) | exact HB.out)⟩
end Go.Proofs.Ytiicfblccklfhaa.PPF
end
