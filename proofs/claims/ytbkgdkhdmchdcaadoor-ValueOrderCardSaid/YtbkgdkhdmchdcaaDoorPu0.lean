/-
  Plain facts on what package value's printed functions compute: which values may be, their bytes, and what reads back.
-/
import Derived.Test.YtbkgdkhdmchdcaaDoorPVx3
import Derived.Test.YtbkgdkhdmchdcaaDoorPVx2
import Derived.Test.YtbkgdkhdmchdcaaDoorPMx1
import Derived.Test.YtbkgdkhdmchdcaaDoorTake
import Derived.Laws.BitsLemmas
namespace Go.Proofs.YtbkgdkhdmchdcaaDoor.Pure
open Go.RowKit Go.Proofs.YtbkgdkhdmchdcaaDoorW.PrintWords Go.Proofs.YtbkgdkhdmchdcaaDoorW.PrintLast Go.Proofs.YtbkgdkhdmchdcaaDoorW.PrintMore Go.Proofs.YtbkgdkhdmchdcaaDoor.Ext Go.Proofs.YtbkgdkhdmchdcaaDoor.PM Go.Proofs.YtbkgdkhdmchdcaaDoor.PV

theorem toList_nil : (⟨#[]⟩ : ByteArray).toList = [] := by rw [ByteArray.toList_eq]
theorem wrap64_id {n : Int} (h0 : -9223372036854775808 ≤ n) (h1 : n ≤ 9223372036854775807) : wrap64 n = n := by unfold wrap64; omega

/-! ### 64 bits -/
theorem or_byte (x c : Int) (h0 : 0 ≤ c) (h1 : c < 256) : Go.bits .or .i64 (wrap64 (x * 256)) c = wrap64 (x * 256 + c) := by
  have hx : (BitVec.ofInt 64 (wrap64 (x * 256))).toNat = ((x * 256) % 18446744073709551616).toNat := by
    rw [BitVec.toNat_ofInt]
    unfold wrap64
    congr 1
    omega
  have hc : (BitVec.ofInt 64 c).toNat = c.toNat := by
    rw [BitVec.toNat_ofInt]
    congr 1
    omega
  show IntKind.i64.wrap (((BitVec.ofInt 64 (wrap64 (x * 256))) ||| (BitVec.ofInt 64 c)).toNat : Int) = _
  rw [BitVec.toNat_or, hx, hc]
  have hq : ((x * 256) % 18446744073709551616).toNat = 2 ^ 8 * (((x * 256) % 18446744073709551616).toNat / 256) := by omega
  rw [hq, ← Nat.two_pow_add_eq_or_of_lt (by omega) _, IntKind.wrap_i64]
  unfold wrap64
  omega

theorem shOr_eq (x c : Int) (h0 : 0 ≤ c) (h1 : c < 256) : shOr x c = wrap64 (x * 256 + c) := or_byte x c h0 h1

theorem begun_ok : rabbetlaw1_begun.f 20 = some true := by
  decide +kernel

theorem begun_at (d : Nat) : rabbetlaw1_begun.f (20 + d) = some true := by
  induction d with
  | zero => exact begun_ok
  | succ d ih => exact rabbetlaw1_begun.mono _ _ ih

/-! ### Which values may be -/
theorem may0 (i : Int) (s : ByteArray) : value_May.f 0 i s = some (decide (i = 0) && (s.toList == [])) := by
  unfold value_May.f
  by_cases h : i = 0 <;> simp [h]
theorem may1 (i : Int) (s : ByteArray) : value_May.f 1 i s = some (decide (-32768 ≤ i) && decide (i ≤ 32767) && (s.toList == [])) := by
  unfold value_May.f
  by_cases h : i < -32768
  · simp [h, Int.not_le.2 h]
  · by_cases h2 : i > 32767
    · simp [h, h2, Int.not_le.2 h2]
    · simp [h, h2, Int.not_lt.1 h, Int.not_lt.1 h2]
theorem may2 (i : Int) (s : ByteArray) : value_May.f 2 i s = some (s.toList == []) := by
  unfold value_May.f
  simp
theorem may3 (i : Int) (s : ByteArray) : value_May.f 3 i s = some ((decide (i = 0) || decide (i = 1)) && (s.toList == [])) := by
  unfold value_May.f
  by_cases h : i = 0
  · simp [h]
  · by_cases h2 : i = 1 <;> simp [h, h2]
theorem may4 (i : Int) (s : ByteArray) : value_May.f 4 i s = some (decide (i = 0) && decide (s.size ≤ 20)) := by
  unfold value_May.f
  by_cases h : i = 0
  · simp [h]
    omega
  · simp [h]
theorem may_no (t i : Int) (s : ByteArray) (h : t < 0 ∨ 4 < t) : value_May.f t i s = some false := by
  unfold value_May.f
  rw [if_neg (by omega), if_neg (by omega), if_neg (by omega), if_neg (by omega), if_neg (by omega)]

theorem may_cases {t i : Int} {s : ByteArray} (h : value_May.f t i s = some true) :
    (t = 0 ∧ i = 0 ∧ s.toList = []) ∨ (t = 1 ∧ -32768 ≤ i ∧ i ≤ 32767 ∧ s.toList = []) ∨ (t = 2 ∧ s.toList = []) ∨ (t = 3 ∧ (i = 0 ∨ i = 1) ∧ s.toList = []) ∨ (t = 4 ∧ i = 0 ∧ s.size ≤ 20) := by
  by_cases ht : t < 0 ∨ 4 < t
  · rw [may_no t i s ht] at h
    cases h
  · obtain rfl | rfl | rfl | rfl | rfl : t = 0 ∨ t = 1 ∨ t = 2 ∨ t = 3 ∨ t = 4 := by omega
    · rw [may0] at h
      exact .inl ⟨rfl, by simpa using h⟩
    · rw [may1] at h
      exact .inr (.inl ⟨rfl, by simpa [and_assoc] using h⟩)
    · rw [may2] at h
      exact .inr (.inr (.inl ⟨rfl, by simpa using h⟩))
    · rw [may3] at h
      exact .inr (.inr (.inr (.inl ⟨rfl, by simpa using h⟩)))
    · rw [may4] at h
      exact .inr (.inr (.inr (.inr ⟨rfl, by simpa using h⟩)))

/-! ### Which bytes they are -/
def putV (t i : Int) (s : ByteArray) : List Int :=
  if t = 0 then [0] else if t = 1 then [1, i / 256 % 256, i % 256]
  else if t = 2 then [2, i / 72057594037927936 % 256, i / 281474976710656 % 256, i / 1099511627776 % 256, i / 4294967296 % 256, i / 16777216 % 256, i / 65536 % 256, i / 256 % 256, i % 256]
  else if t = 3 then [3, i % 256] else 4 :: (s.size : Int) :: bytesOf s

theorem put_no {t i : Int} {s : ByteArray} (k : Nat) (h : value_May.f t i s = some false) : value_Put.f k t i s = some [] := by
  unfold value_Put.f
  rw [h]
  rfl
theorem shr_lit (x : Int) (n : Nat) (h : n ≤ 64) : shr .i64 x (n : Int) = x / 2 ^ n := by
  unfold shr
  rw [Int.toNat_natCast, show IntKind.i64.bits = 64 from rfl, Nat.min_eq_left h]
theorem put_yes {t i : Int} {s : ByteArray} (h : value_May.f t i s = some true) : value_Put.f 20 t i s = some (putV t i s) := by
  unfold value_Put.f
  rw [h]
  have hb : IntKind.i64.bits = 64 := rfl
  rcases may_cases h with ⟨rfl, _⟩ | ⟨rfl, _⟩ | ⟨rfl, _⟩ | ⟨rfl, _⟩ | ⟨rfl, _, hs⟩
  · have e : value_width.f 0 = some 0 := rfl
    simp only [Option.bind_some, if_true, e]
    rw [if_neg (by decide)]
    simp [value_Put.l0, putV, wrap64]
  · have e : value_width.f 1 = some 2 := rfl
    simp only [Option.bind_some, if_true, e]
    rw [if_neg (by decide)]
    simp [value_Put.l0, putV, wrap64, shr, hb]
  · have e : value_width.f 2 = some 8 := rfl
    simp only [Option.bind_some, if_true, e]
    rw [if_neg (by decide)]
    simp [value_Put.l0, putV, wrap64, shr, hb]
  · have e : value_width.f 3 = some 1 := rfl
    simp only [Option.bind_some, if_true, e]
    rw [if_neg (by decide)]
    simp [value_Put.l0, putV, wrap64, shr, hb]
  · simp only [Option.bind_some, if_true]
    rw [if_pos (by simp), if_pos (by simp; omega)]
    simp [putV]
    omega

theorem put_length {t i : Int} {s : ByteArray} (h : value_May.f t i s = some true) : ((putV t i s).length : Int) = if t = 1 then 3 else if t = 2 then 9 else if t = 3 then 2 else if t = 4 then 2 + (s.size : Int) else 1 := by
  rcases may_cases h with ⟨rfl, _⟩ | ⟨rfl, _⟩ | ⟨rfl, _⟩ | ⟨rfl, _⟩ | ⟨rfl, _, hs⟩ <;> simp [putV, bytesOf_length] <;> omega
theorem put_head {t i : Int} {s : ByteArray} (h : value_May.f t i s = some true) : ∃ r, putV t i s = t :: r := by
  rcases may_cases h with ⟨rfl, _⟩ | ⟨rfl, _⟩ | ⟨rfl, _⟩ | ⟨rfl, _⟩ | ⟨rfl, _, hs⟩ <;> exact ⟨_, rfl⟩
theorem may_le {t i : Int} {s : ByteArray} (h : value_May.f t i s = some true) : 0 ≤ t ∧ t ≤ 4 := by
  rcases may_cases h with ⟨rfl, _⟩ | ⟨rfl, _⟩ | ⟨rfl, _⟩ | ⟨rfl, _⟩ | ⟨rfl, _, hs⟩ <;> omega

theorem ValueTypes (a0_0 a0_1 : Int) (a0_2 : ByteArray) (_ : (Lit.int .i64 a0_0).wf = true) (_ : (Lit.int .i64 a0_1).wf = true) (_ : a0_2.size ≤ maxLen) : ∃ k, rabbetlaw1_ValueTypes.f k a0_0 a0_1 a0_2 = some true := by
  refine ⟨20, ?_⟩
  unfold rabbetlaw1_ValueTypes.f
  rw [begun_ok]
  simp only [Option.bind_some, if_true]
  obtain ⟨b, hb⟩ := may_total a0_0 a0_1 a0_2
  cases b
  · rw [put_no 20 hb, hb]
    rfl
  · rw [put_yes hb, hb]
    simp only [Option.bind_some, if_true]
    have hl := put_length hb
    obtain ⟨r, hr⟩ := put_head hb
    have hr0 : wrap64 (rd (putV a0_0 a0_1 a0_2) 0) = a0_0 := by
      rw [hr]
      have := may_le hb
      show wrap64 a0_0 = a0_0
      exact wrap64_id (by omega) (by omega)
    rw [hr0]
    have hp : 0 < ((putV a0_0 a0_1 a0_2).length : Int) := by rw [hr]; simp
    by_cases h1 : a0_0 = 1
    · rw [if_pos h1] at hl ⊢
      rw [if_pos hl, if_pos hp]
      simp
    · rw [if_neg h1] at hl ⊢
      by_cases h2 : a0_0 = 2
      · rw [if_pos h2] at hl ⊢
        rw [if_pos hl, if_pos hp]
        simp
      · rw [if_neg h2] at hl ⊢
        by_cases h3 : a0_0 = 3
        · rw [if_pos h3] at hl ⊢
          rw [if_pos hl, if_pos hp]
          simp
        · rw [if_neg h3] at hl ⊢
          by_cases h4 : a0_0 = 4
          · rw [if_pos h4] at hl ⊢
            have hs : a0_2.size ≤ 20 := by
              rcases may_cases hb with ⟨e, _⟩ | ⟨e, _⟩ | ⟨e, _⟩ | ⟨e, _⟩ | ⟨_, _, hs⟩
              · omega
              · omega
              · omega
              · omega
              · exact hs
            rw [if_pos (by rw [hl, wrap64_id (by omega) (by omega)]), if_pos hp]
            simp
          · rw [if_neg h4] at hl ⊢
            rw [if_pos hl, if_pos hp]
            simp
end Go.Proofs.YtbkgdkhdmchdcaaDoor.Pure
