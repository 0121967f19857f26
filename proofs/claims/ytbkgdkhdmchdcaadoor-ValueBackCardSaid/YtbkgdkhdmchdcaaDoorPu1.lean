/-
  Plain law: a value's bytes read back, whatever stands behind them, and cut off they read as none.
-/
import Derived.Test.YtbkgdkhdmchdcaaDoorPu0
import Derived.Test.YtbkgdkhdmchdcaaDoorPVx4
namespace Go.Proofs.YtbkgdkhdmchdcaaDoor.Pure
open Go.RowKit Go.Proofs.YtbkgdkhdmchdcaaDoorW.PrintWords Go.Proofs.YtbkgdkhdmchdcaaDoorW.PrintLast Go.Proofs.YtbkgdkhdmchdcaaDoorW.PrintMore Go.Proofs.YtbkgdkhdmchdcaaDoor.Ext Go.Proofs.YtbkgdkhdmchdcaaDoor.PM Go.Proofs.YtbkgdkhdmchdcaaDoor.PV

theorem nil_of {s : ByteArray} (h : s.toList = []) : s = ⟨#[]⟩ := by
  rw [ByteArray.toList_eq] at h
  cases s with
  | mk d => cases d with
    | mk l => simp at h; subst h; rfl

theorem wf64 {i : Int} (h : (Lit.int .i64 i).wf = true) : -9223372036854775808 ≤ i ∧ i ≤ 9223372036854775807 := by
  simp [Lit.wf, IntKind.min, IntKind.max, IntKind.signed, IntKind.bits] at h
  omega
theorem wf8 {i : Int} (h : (Lit.int .u8 i).wf = true) : 0 ≤ i ∧ i ≤ 255 := by
  simp [Lit.wf, IntKind.min, IntKind.max, IntKind.signed, IntKind.bits] at h
  omega

/-! ### Numbers of bytes -/
theorem wrap_step (a c : Int) : wrap64 (wrap64 a * 256 + c) = wrap64 (a * 256 + c) := by unfold wrap64; omega
theorem num0 : numV [] = 0 := rfl
theorem num1 {a : Int} (h0 : 0 ≤ a) (h1 : a < 256) : numV [a] = a := by
  show shOr 0 a = a
  rw [shOr_eq _ _ h0 h1]
  exact (congrArg wrap64 (by omega)).trans (wrap64_id (by omega) (by omega))
theorem num2 {a b : Int} (a0 : 0 ≤ a) (a1 : a < 256) (b0 : 0 ≤ b) (b1 : b < 256) : numV [a, b] = a * 256 + b := by
  show shOr (numV [a]) b = _
  rw [num1 a0 a1, shOr_eq _ _ b0 b1]
  exact wrap64_id (by omega) (by omega)
theorem num8 (i : Int) (hi : -9223372036854775808 ≤ i ∧ i ≤ 9223372036854775807) :
    numV [i / 72057594037927936 % 256, i / 281474976710656 % 256, i / 1099511627776 % 256, i / 4294967296 % 256, i / 16777216 % 256, i / 65536 % 256, i / 256 % 256, i % 256] = i := by
  have e2 : i / 65536 = i / 256 / 256 := by omega
  have e3 : i / 16777216 = i / 256 / 256 / 256 := by omega
  have e4 : i / 4294967296 = i / 256 / 256 / 256 / 256 := by omega
  have e5 : i / 1099511627776 = i / 256 / 256 / 256 / 256 / 256 := by omega
  have e6 : i / 281474976710656 = i / 256 / 256 / 256 / 256 / 256 / 256 := by omega
  have e7 : i / 72057594037927936 = i / 256 / 256 / 256 / 256 / 256 / 256 / 256 := by omega
  rw [e2, e3, e4, e5, e6, e7]
  show shOr (shOr (shOr (shOr (shOr (shOr (shOr (shOr 0 _) _) _) _) _) _) _) _ = i
  rw [shOr_eq 0 _ (by omega) (by omega)]
  repeat rw [shOr_eq (wrap64 _) _ (by omega) (by omega), wrap_step]
  have h1 : i = i / 256 * 256 + i % 256 := by omega
  generalize hq1 : i / 256 = q1 at *
  have h2 : q1 = q1 / 256 * 256 + q1 % 256 := by omega
  generalize hq2 : q1 / 256 = q2 at *
  have h3 : q2 = q2 / 256 * 256 + q2 % 256 := by omega
  generalize hq3 : q2 / 256 = q3 at *
  have h4 : q3 = q3 / 256 * 256 + q3 % 256 := by omega
  generalize hq4 : q3 / 256 = q4 at *
  have h5 : q4 = q4 / 256 * 256 + q4 % 256 := by omega
  generalize hq5 : q4 / 256 = q5 at *
  have h6 : q5 = q5 / 256 * 256 + q5 % 256 := by omega
  generalize hq6 : q5 / 256 = q6 at *
  have h7 : q6 = q6 / 256 * 256 + q6 % 256 := by omega
  generalize hq7 : q6 / 256 = q7 at *
  have h8 : q7 % 256 = q7 - 256 * (q7 / 256) := by omega
  have h9 : (q7 / 256 = 0 ∨ q7 / 256 = -1) := by omega
  unfold wrap64
  omega

theorem i16_id {i : Int} (h0 : -32768 ≤ i) (h1 : i ≤ 32767) : IntKind.i16.wrap (i / 256 % 256 * 256 + i % 256) = i := by
  have : i / 256 % 256 * 256 + i % 256 = i % 65536 := by omega
  rw [this]
  simp [IntKind.wrap, IntKind.bits, IntKind.signed]
  split <;> omega

theorem strOfNums_bytes (s : ByteArray) : strOfNums (bytesOf s) = s := by
  cases s with
  | mk d => cases d with
    | mk l =>
      unfold strOfNums bytesOf
      simp
      induction l with
      | nil => rfl
      | cons c r ih => simpa using ih

/-! ### A value's bytes read back -/
theorem rd_cons0 (x : Int) (r : List Int) : rd (x :: r) 0 = x := rfl
theorem rd_cons1 (x y : Int) (r : List Int) : rd (x :: y :: r) 1 = y := rfl

theorem read_put {t i : Int} {s : ByteArray} (hi : -9223372036854775808 ≤ i ∧ i ≤ 9223372036854775807) (h : value_May.f t i s = some true) (r : List Int) :
    readV (putV t i s ++ r) = some (t, i, s, ((putV t i s).length : Int)) := by
  rcases may_cases h with ⟨rfl, rfl, hs⟩ | ⟨rfl, h0, h1, hs⟩ | ⟨rfl, hs⟩ | ⟨rfl, h0, hs⟩ | ⟨rfl, rfl, hs⟩
  · rw [nil_of hs]
    simp [readV, putV, rd_cons0, wid, numV]
    omega
  · rw [nil_of hs]
    simp [readV, putV, rd_cons0, wid]
    rw [num2 (by omega) (by omega) (by omega) (by omega), i16_id h0 h1, wrap64_id (by omega) (by omega)]
    omega
  · rw [nil_of hs]
    simp [readV, putV, rd_cons0, wid]
    exact ⟨by omega, num8 i hi⟩
  · rw [nil_of hs]
    simp [readV, putV, rd_cons0, wid]
    rw [num1 (by omega) (by omega)]
    omega
  · have hl := bytesOf_length s
    have e : ((bytesOf s ++ r).take s.size) = bytesOf s := by rw [List.take_append_of_le_length (by omega), ← hl, List.take_length]
    have e2 : (2 + (s.size : Int)).toNat = s.size + 2 := by omega
    simp [readV, putV, rd_cons0, rd_cons1, e2]
    rw [e, strOfNums_bytes, hl]
    exact ⟨by omega, rfl, by omega⟩

theorem take_put {t i : Int} {s : ByteArray} (hi : -9223372036854775808 ≤ i ∧ i ≤ 9223372036854775807) (h : value_May.f t i s = some true) (r : List Int) :
    takeV (putV t i s ++ r) = (t, i, s, ((putV t i s).length : Int), true) := by
  unfold takeV
  rw [read_put hi h r]
  simp only [h, if_true]

/-- Cut off, they read as none. -/
theorem read_cut {t i : Int} {s : ByteArray} (h : value_May.f t i s = some true) (m : Nat) (hm : m < (putV t i s).length) : readV ((putV t i s).take m) = none := by
  rcases Nat.eq_zero_or_pos m with rfl | hp
  · simp [readV]
  obtain ⟨m, rfl⟩ : ∃ n, m = n + 1 := ⟨m - 1, by omega⟩
  rcases may_cases h with ⟨rfl, rfl, hs⟩ | ⟨rfl, h0, h1, hs⟩ | ⟨rfl, hs⟩ | ⟨rfl, h0, hs⟩ | ⟨rfl, rfl, hs⟩
  · simp [putV] at hm
  · simp [putV] at hm ⊢
    simp [readV, rd_cons0, wid]
    omega
  · simp [putV] at hm ⊢
    simp [readV, rd_cons0, wid]
    omega
  · simp [putV] at hm ⊢
    simp [readV, rd_cons0, wid]
    omega
  · have hl := bytesOf_length s
    simp [putV, hl] at hm ⊢
    rcases Nat.eq_zero_or_pos m with rfl | hp2
    · simp [readV, rd_cons0]
    · obtain ⟨m, rfl⟩ : ∃ n, m = n + 1 := ⟨m - 1, by omega⟩
      simp [readV, rd_cons0, rd_cons1, hl]
      omega

theorem bytes_put {t i : Int} {s : ByteArray} (h : value_May.f t i s = some true) : ∀ x ∈ putV t i s, 0 ≤ x ∧ x ≤ 255 := by
  rcases may_cases h with ⟨rfl, rfl, hs⟩ | ⟨rfl, h0, h1, hs⟩ | ⟨rfl, hs⟩ | ⟨rfl, h0, hs⟩ | ⟨rfl, rfl, hs⟩
  · simp [putV]
  · simp [putV]; omega
  · simp [putV]; omega
  · simp [putV]; omega
  · simp [putV]
    refine ⟨by omega, fun x hx => ?_⟩
    unfold bytesOf at hx
    obtain ⟨b, _, rfl⟩ := List.mem_map.1 hx
    have := b.toNat_lt
    omega

theorem takef {l : List Int} (h : ∀ x ∈ l, 0 ≤ x ∧ x ≤ 255) : value_Take.f l = some (takeV l) := by
  unfold value_Take.f
  rw [if_pos]
  rw [List.all_eq_true]
  intro x hx
  have := h x hx
  simp [this.1, this.2]

theorem ValueBack (a0_0 a0_1 : Int) (a0_2 : ByteArray) (l1 : List Int) (a2 : Int) (_ : (Lit.int .i64 a0_0).wf = true) (w01 : (Lit.int .i64 a0_1).wf = true) (_ : a0_2.size ≤ maxLen)
    (_ : l1.length ≤ maxLen) (_ : l1.length * 1 ≤ 140737488351232) (w1 : ∀ x ∈ l1, (Lit.int .u8 x).wf = true) (w2 : (Lit.int .u8 a2).wf = true) : ∃ k, rabbetlaw1_ValueBack.f k a0_0 a0_1 a0_2 l1 a2 = some true := by
  refine ⟨21, ?_⟩
  have hi := wf64 w01
  have h2 := wf8 w2
  unfold rabbetlaw1_ValueBack.f
  rw [begun_at 1]
  simp only [Option.bind_some, if_true]
  by_cases h20 : (l1.length : Int) > 20
  · rw [if_pos h20]
    simp [rabbetlaw1_ValueBack.j0]
  rw [if_neg h20]
  by_cases h40 : (a0_2.size : Int) > 40
  · simp [rabbetlaw1_ValueBack.j0, h40]
  simp only [h40, decide_false]
  simp only [rabbetlaw1_ValueBack.j0]
  rw [if_neg (by simp)]
  obtain ⟨b, hb⟩ := may_total a0_0 a0_1 a0_2
  cases b
  · rw [put_no 20 hb, hb]
    rfl
  · rw [put_yes hb, hb]
    simp only [Option.bind_some, if_true, List.nil_append, List.length_nil, Nat.zero_add]
    have hl := put_length hb
    obtain ⟨r, hr⟩ := put_head hb
    have hp : 0 < (putV a0_0 a0_1 a0_2).length := by rw [hr]; simp
    have hle : (putV a0_0 a0_1 a0_2).length ≤ 50 := by
      have : ((putV a0_0 a0_1 a0_2).length : Int) ≤ 50 := by
        rw [hl]
        split
        · omega
        split
        · omega
        split
        · omega
        split
        · omega
        · omega
      omega
    have hB := bytes_put hb
    have ht := take_put hi hb l1
    have hc := fun m hm => read_cut hb m hm
    generalize putV a0_0 a0_1 a0_2 = P at *
    have hlp : (0 : Int) < (P.length : Int) := by omega
    have hm0 := Int.emod_nonneg a2 (show (P.length : Int) ≠ 0 by omega)
    have hm1 := Int.emod_lt_of_pos a2 hlp
    have hmod : Int.tmod (wrap64 a2) (P.length : Int) = a2 % (P.length : Int) := by
      rw [wrap64_id (by omega) (by omega), Int.tmod_eq_emod_of_nonneg (by omega)]
    rw [if_neg (by omega), if_pos (by omega), if_pos (by omega), hmod]
    rw [takef (l := P ++ l1) (fun x hx => by
      rcases List.mem_append.1 hx with hx | hx
      · exact hB x hx
      · exact wf8 (w1 x hx)), ht]
    simp only [Option.bind_some]
    rw [if_pos hm0, if_pos (by omega)]
    have hcut : takeV (P.take (a2 % (P.length : Int)).toNat) = (0, 0, ⟨#[]⟩, 0, false) := by
      unfold takeV
      rw [hc _ (by omega)]
    rw [takef (fun x hx => hB x (List.mem_of_mem_take hx)), hcut]
    simp
end Go.Proofs.YtbkgdkhdmchdcaaDoor.Pure
