/-
  value.Take reads a value off bytes ('takeV'), for any bytes, wherever the sentinel errShort holds a pointer as its initialiser lays it.
-/
import Derived.Test.YtbkgdkhdmchdcaaDoorIs
import Derived.Test.YtbkgdkhdmchdcaaDoorCmp
import Derived.Test.YtbkgdkhdmchdcaaDoorWMore
import Derived.Deep.DeepFit
import Derived.Deep.QuietTactic
import Derived.BigQuiet
import Derived.Deep.RegionWith
import Derived.Outline
import Derived.Test.YtbkgdkhdmchdcaaDoorPMx1
namespace Go.Proofs.YtbkgdkhdmchdcaaDoor.Ext
open Go.RowKit Go.Proofs.YtbkgdkhdmchdcaaDoorW.PrintWords Go.Proofs.YtbkgdkhdmchdcaaDoorW.PrintMore Go.Proofs.YtbkgdkhdmchdcaaDoor.PM
set_option linter.unusedVariables false
set_option maxRecDepth 100000

/-- What the sentinel's variable holds. -/
def LaidAt (w : World) (a : Addr) : Prop := w.cell? ⟨0, 0, none⟩ = some (.iface 76 (.pointer (some a)))
def Laid (w : World) : Prop := ∃ a, LaidAt w a
theorem LaidAt.mono {w W : World} {a : Addr} (h : LaidAt w a) (hb : Below w.heap.size w W) : LaidAt W a := pw_cell_below hb h
theorem Laid.mono {w W : World} (h : Laid w) (hb : Below w.heap.size w W) : Laid W := by
  obtain ⟨a, h⟩ := h
  exact ⟨a, h.mono hb⟩

def wrapOf (a : Addr) : Value := .agg #[.string ⟨#[111, 102, 32, 98, 121, 116, 101, 115]⟩, .iface 76 (.pointer (some a))]
abbrev shortErr (a : Addr) : Value := .iface 64 (wrapOf a)

theorem cut_no (a : Addr) (A : Option Addr) (len c : Nat) (n : Int) (w : World) (hl : len ≤ 9223372036854775807) (h : (len : Int) < n) (hG : LaidAt w a) :
    Calls Tryd.prog 33 #[.slice A len c, .int .i64 n] w fun e w' => e = .returned (.tuple #[.slice none 0 0, shortErr a]) ∧ Drawn0 w w' := by
  have hd : decide ((len : Int) < n) = true := decide_eq_true h
  have hc : w.cell? ⟨0, 0, none⟩ = some (.iface 76 (.pointer (some a))) := hG
  clear hG h
  go_enter Tryd.func33, Tryd.ntmps33
  go_wp2
  go_quiet (fail)
  go_wp2
  go_ret2
  exact ⟨rfl, ⟨⟨_, rfl⟩⟩⟩

theorem cut_ok (A : Option Addr) (len c : Nat) (n : Int) (w : World) (hl : len ≤ 9223372036854775807) (hc : len ≤ c) (h0 : 0 ≤ n) (h : n ≤ (len : Int)) :
    Calls Tryd.prog 33 #[.slice A len c, .int .i64 n] w fun e w' => e = .returned (.tuple #[.slice A n.toNat c, .nilIface]) ∧ w = w' := by
  have hd : decide ((len : Int) < n) = false := decide_eq_false (by omega)
  go_enter Tryd.func33, Tryd.ntmps33
  go_wp2
  go_ret2
  exact ⟨rfl, rfl⟩

/-! ### What is read -/
def wid (t : Int) : Int := if t = 1 then 2 else if t = 2 then 8 else if t = 3 then 1 else 0
def shOr (acc c : Int) : Int := Go.bits .or .i64 (wrap64 (acc * 256)) c
def numV (l : List Int) : Int := l.foldl shOr 0
def readV (l : List Int) : Option (Int × Int × ByteArray × Int) :=
  if l.length = 0 then none
  else if rd l 0 = 4 then
    (if l.length < 2 then none else if (l.length : Int) < 2 + rd l 1 then none else some (4, 0, strOfNums ((l.take (2 + rd l 1).toNat).drop 2), 2 + rd l 1))
  else if (l.length : Int) < 1 + wid (rd l 0) then none
  else some (rd l 0, (if rd l 0 = 1 then wrap64 (IntKind.i16.wrap (numV ((l.take (1 + wid (rd l 0)).toNat).drop 1))) else numV ((l.take (1 + wid (rd l 0)).toNat).drop 1)), ⟨#[]⟩, 1 + wid (rd l 0))

def ReadErr (a : Addr) (w : World) (e : Ending) (w' : World) : Prop := ∃ (t i : Int) (s : ByteArray) (n : Int), e = .returned (.tuple #[.agg #[.int .i64 t, .int .i64 i, .string s], .int .i64 n, shortErr a]) ∧ Below w.heap.size w w'

theorem readErr_mk {a : Addr} {w w' : World} {t i n : Int} {s : ByteArray} (hb : Below w.heap.size w w') : ReadErr a w (.returned (.tuple #[.agg #[.int .i64 t, .int .i64 i, .string s], .int .i64 n, shortErr a])) w' := ⟨_, _, _, _, rfl, hb⟩

theorem blk_three {W : World} {g t : Nat} {cs : Array Value} (h : W.heap[g]? = some (.cells cs t (0, 0))) (hs : cs.size = 3) (x y z : Value) :
    (((W.setCell ⟨g, 0, none⟩ x).setCell ⟨g, 1, none⟩ y).setCell ⟨g, 2, none⟩ z).heap[g]? = some (.cells #[x, y, z] t (0, 0)) := by
  refine (blk_set (blk_set (blk_set h 0 x) 1 y) 2 z).trans ?_
  have e : ((cs.setIfInBounds 0 x).setIfInBounds 1 y).setIfInBounds 2 z = #[x, y, z] := by
    apply Array.ext
    · simp [hs]
    · intro i h1 h2
      have : i < 3 := by simpa [hs] using h1
      rcases i with _ | _ | _ | i
      · simp [hs]
      · simp [hs]
      · simp
      · omega
  rw [e]

set_option maxHeartbeats 1000000 in
theorem read_empty (a : Addr) (A : Option Addr) (c : Nat) (w : World) (hG : LaidAt w a) :
    Calls Tryd.prog 21 #[.slice A 0 c] w (ReadErr a w) := by
  go_enter Tryd.func21, Tryd.ntmps21
  go_wp2_with (go_at_call 33; refine (cut_no a _ _ _ _ _ (by omega) (by omega) ?_).mono ?_; exact hG.mono ((Below.refl _ _).alloc (Nat.le_refl _) _); rintro e w' ⟨rfl, ⟨nd, rfl⟩⟩)
  refine bodyPost_ret (results_ctt rfl _ _ w.heap.size 23 _ (0, 0) _ rfl (blk_three (by repeat (first | exact blk_new _ _ | refine blk_drewN ?_ _)) rfl _ _ _) Tryd.underlying23 rfl (by kernel_rfl)) rfl ?_
  exact readErr_mk (by repeat (first | exact Below.refl _ _ | apply below_alloc | apply pw_below_drewN | refine below_set ?_ (Nat.le_refl _)))

/-- What a cell of the bytes is, behind a new block. -/
theorem cell_new {w : World} {ad : Addr} {u : Value} (h : w.cell? ad = some u) (o : Obj) : (w.alloc o).cell? ad = some u := (World.cell?_alloc_lt w o ad (World.block_lt_of_cell? w _ h)).trans h
theorem bytes_rd {l : List Int} (hB : ∀ x ∈ l, 0 ≤ x ∧ x ≤ 255) {i : Nat} (hi : i < l.length) : 0 ≤ rd l i ∧ rd l i ≤ 255 := by
  have : rd l i = l[i] := by simp [rd, List.getD_eq_getElem?_getD, hi]
  rw [this]
  exact hB _ (List.getElem_mem hi)

set_option maxHeartbeats 1000000 in
theorem read_text1 (a ad : Addr) (c : Nat) (w : World) (hG : LaidAt w a) (hc : 1 ≤ c) (hx : w.cell? ad = some (.int .u8 4)) :
    Calls Tryd.prog 21 #[.slice (some ad) 1 c] w (ReadErr a w) := by
  have hx' := cell_new hx
  clear hx
  go_enter Tryd.func21, Tryd.ntmps21
  go_wp2_with fail
  refine (cut_ok _ 1 _ 1 _ (by omega) (by omega) (by omega) (by omega)).mono ?_
  rintro e w' ⟨rfl, rfl⟩
  go_wp2_with fail
  refine (cut_no a _ _ _ 2 _ (by omega) (by omega) (hG.mono ((Below.refl _ _).alloc (Nat.le_refl _) _))).mono ?_
  rintro e w' ⟨rfl, ⟨nd, rfl⟩⟩
  go_wp2_with fail
  refine bodyPost_ret (results_ctt rfl _ _ w.heap.size 23 _ (0, 0) _ rfl (blk_three (by repeat (first | exact blk_new _ _ | refine blk_drewN ?_ _)) rfl _ _ _) Tryd.underlying23 rfl (by kernel_rfl)) rfl ?_
  exact readErr_mk (by repeat (first | exact Below.refl _ _ | apply below_alloc | apply pw_below_drewN | refine below_set ?_ (Nat.le_refl _)))

set_option maxHeartbeats 1000000 in
theorem read_text2 (a ad : Addr) (len c : Nat) (y : Int) (w : World) (hG : LaidAt w a) (hm : len ≤ 9223372036854775807) (hl : 2 ≤ len) (hc : len ≤ c) (hx : w.cell? ad = some (.int .u8 4)) (hy : w.cell? ⟨ad.block, ad.off + 1, none⟩ = some (.int .u8 y)) (hy0 : 0 ≤ y) (hy1 : y ≤ 255) (h : (len : Int) < 2 + y) :
    Calls Tryd.prog 21 #[.slice (some ad) len c] w (ReadErr a w) := by
  have hx' := cell_new hx
  have hy' := cell_new hy
  clear hx hy
  go_enter Tryd.func21, Tryd.ntmps21
  go_wp2_with fail
  refine (cut_ok _ len _ 1 _ (by omega) (by omega) (by omega) (by omega)).mono ?_
  rintro e w' ⟨rfl, rfl⟩
  go_wp2_with fail
  refine (cut_ok _ len _ 2 _ (by omega) (by omega) (by omega) (by omega)).mono ?_
  rintro e w' ⟨rfl, rfl⟩
  go_wp2_with fail
  refine (cut_no a _ _ _ (2 + y) _ (by omega) (by omega) (hG.mono ((Below.refl _ _).alloc (Nat.le_refl _) _))).mono ?_
  rintro e w' ⟨rfl, ⟨nd, rfl⟩⟩
  go_wp2_with fail
  refine bodyPost_ret (results_ctt rfl _ _ w.heap.size 23 _ (0, 0) _ rfl (blk_three (by repeat (first | exact blk_new _ _ | refine blk_drewN ?_ _)) rfl _ _ _) Tryd.underlying23 rfl (by kernel_rfl)) rfl ?_
  exact readErr_mk (by repeat (first | exact Below.refl _ _ | apply below_alloc | apply pw_below_drewN | refine below_set ?_ (Nat.le_refl _)))

set_option maxHeartbeats 1000000 in
theorem read_num0 (a ad : Addr) (len c : Nat) (x : Int) (w : World) (hG : LaidAt w a) (hm : len ≤ 9223372036854775807) (hl : 1 ≤ len) (hc : len ≤ c) (hx : w.cell? ad = some (.int .u8 x)) (hx0 : 0 ≤ x) (hx1 : x ≤ 255) (hx4 : (x == 4) = false) (h : (len : Int) < 1 + wid x) :
    Calls Tryd.prog 21 #[.slice (some ad) len c] w (ReadErr a w) := by
  have hx' := cell_new hx
  clear hx
  go_enter Tryd.func21, Tryd.ntmps21
  go_wp2_with fail
  refine (cut_ok _ len _ 1 _ (by omega) (by omega) (by omega) (by omega)).mono ?_
  rintro e w' ⟨rfl, rfl⟩
  go_wp2_with fail
  refine (value_width.calls x (wid x) _ (by unfold value_width.f wid; split <;> (try split) <;> (try split) <;> rfl)).mono ?_
  rintro e w' ⟨rfl, ⟨nd, rfl⟩⟩
  have hw0 : 0 ≤ wid x ∧ wid x ≤ 8 := by unfold wid; split <;> (try split) <;> (try split) <;> omega
  obtain ⟨hw0, hw1⟩ := hw0
  go_wp2_with fail
  refine (cut_no a _ _ _ (1 + wid x) _ (by omega) (by omega) (hG.mono (pw_below_drewN ((Below.refl _ _).alloc (Nat.le_refl _) _) _))).mono ?_
  rintro e w' ⟨rfl, ⟨nd2, rfl⟩⟩
  go_wp2_with fail
  refine bodyPost_ret (results_ctt rfl _ _ w.heap.size 23 _ (0, 0) _ rfl (blk_three (by repeat (first | exact blk_new _ _ | refine blk_drewN ?_ _)) rfl _ _ _) Tryd.underlying23 rfl (by kernel_rfl)) rfl ?_
  exact readErr_mk (by repeat (first | exact Below.refl _ _ | apply below_alloc | apply pw_below_drewN | refine below_set ?_ (Nat.le_refl _)))

/-- A cut's own cut: s[:m][j:]. -/
theorem tail_of (l : List Int) (A : Option Addr) (c m : Nat) (j : Int) (w : World) (h : Kd.C (Kd.int .u8) w A l.length l) (hm : m ≤ l.length) (h0 : 0 ≤ j) (hj : j ≤ (m : Int)) (hc : l.length ≤ c) :
    ∃ A' : Option Addr, (∀ W : World, (Instr.slice 24 (.slice A m c) (some (.int .i64 j)) none none).run Tryd.prog W = .ok (.slice A' (m - j.toNat) (c - j.toNat)) W) ∧
      Kd.C (Kd.int .u8) w A' (m - j.toNat) ((l.take m).drop j.toNat) := by
  obtain ⟨i0, hi0, _, hsz, _⟩ := info_parts (show (Tryd.prog.info? 5).map (fun i => (i.zero, i.size, i.bytes)) = some (some (.int .u8 0), 1, 1) by kernel_rfl)
  have hlm : (l.take m).length = m := by rw [List.length_take]; omega
  have h2 := Kd.C_take h hm
  obtain ⟨A', e1, e2, _⟩ := print_drop_of (P := Tryd.prog) (Value.int .u8) (0 : Int) 24 5 .i64 Tryd.underlying24 hi0 hsz A c (l.take m) j h0 (by omega) (by omega)
  refine ⟨A', fun W => ?_, ?_⟩
  · have e := e1 W
    rw [List.length_drop, hlm] at e
    exact e
  · have e := Kd.C_of_reads (h1 := fun _ => rfl) (e2 w (Kd.reads_of_C h2))
    rw [List.length_drop, hlm] at e
    exact e

set_option maxHeartbeats 1000000 in
theorem read_text (ad : Addr) (c : Nat) (l : List Int) (y : Int) (w : World) (hm : l.length ≤ 9223372036854775807) (hl : 2 ≤ l.length) (hc : l.length ≤ c) (hr : Kd.C (Kd.int .u8) w (some ad) l.length l)
    (hx : w.cell? ad = some (.int .u8 4)) (hy : w.cell? ⟨ad.block, ad.off + 1, none⟩ = some (.int .u8 y)) (hy0 : 0 ≤ y) (hy1 : y ≤ 255) (h : 2 + y ≤ (l.length : Int)) :
    Calls Tryd.prog 21 #[.slice (some ad) l.length c] w fun e w' => e = .returned (.tuple #[.agg #[.int .i64 4, .int .i64 0, .string (strOfNums ((l.take (2 + y).toNat).drop 2))], .int .i64 (2 + y), .nilIface]) ∧ Below w.heap.size w w' := by
  have hx' := cell_new hx
  have hy' := cell_new hy
  obtain ⟨A', hsl, hC⟩ := tail_of l (some ad) c (2 + y).toNat 2 w hr (by omega) (by omega) (by omega) hc
  have hcv : ∀ o, (convert 24 9 (.slice A' ((2 + y).toNat - 2) (c - 2))).run Tryd.prog (w.alloc o) = .ok (.string (strOfNums ((l.take (2 + y).toNat).drop 2))) (w.alloc o) :=
    fun o => Kd.C_string Tryd.underlying24 Tryd.underlying5 Tryd.underlying9 (Kd.C_alloc hC o)
  generalize strOfNums ((l.take (2 + y).toNat).drop 2) = s at hcv ⊢
  rw [show (2 : Int).toNat = 2 from rfl] at hsl
  generalize (2 + y).toNat - 2 = m2 at hsl hcv
  generalize l.length = len at *
  clear hx hy hC hr
  go_enter Tryd.func21, Tryd.ntmps21
  go_wp2_with fail
  refine (cut_ok _ len _ 1 _ (by omega) (by omega) (by omega) (by omega)).mono ?_
  rintro e w' ⟨rfl, rfl⟩
  go_wp2_with fail
  refine (cut_ok _ len _ 2 _ (by omega) (by omega) (by omega) (by omega)).mono ?_
  rintro e w' ⟨rfl, rfl⟩
  go_wp2_with fail
  refine (cut_ok _ len _ (2 + y) _ (by omega) (by omega) (by omega) (by omega)).mono ?_
  rintro e w' ⟨rfl, rfl⟩
  go_wp2_with fail
  refine bodyPost_ret (results_ctt rfl _ _ w.heap.size 23 _ (0, 0) _ rfl (blk_new _ _) Tryd.underlying23 rfl (by kernel_rfl)) rfl ?_
  exact ⟨rfl, by repeat (first | exact Below.refl _ _ | apply below_alloc | apply pw_below_drewN | refine below_set ?_ (Nat.le_refl _))⟩

theorem numV_snoc (l : List Int) (c : Int) : numV (l ++ [c]) = shOr (numV l) c := by simp [numV]
theorem numV_take (l : List Int) (k : Nat) (h : k < l.length) : numV (l.take (k + 1)) = shOr (numV (l.take k)) (rd l k) := by
  rw [List.take_succ_eq_append_getElem h, numV_snoc]
  congr 1
  simp [rd, List.getD_eq_getElem?_getD, h]

set_option maxHeartbeats 2000000 in
theorem read_num (ad : Addr) (c : Nat) (l : List Int) (x : Int) (w : World) (hm : l.length ≤ 9223372036854775807) (hl : 1 ≤ l.length) (hc : l.length ≤ c) (hr : Kd.C (Kd.int .u8) w (some ad) l.length l)
    (hB : ∀ x ∈ l, 0 ≤ x ∧ x ≤ 255) (hx : w.cell? ad = some (.int .u8 x)) (hx0 : 0 ≤ x) (hx1 : x ≤ 255) (hx4 : (x == 4) = false) (h : 1 + wid x ≤ (l.length : Int)) :
    Calls Tryd.prog 21 #[.slice (some ad) l.length c] w fun e w' => e = .returned (.tuple #[.agg #[.int .i64 x, .int .i64 (if x = 1 then wrap64 (IntKind.i16.wrap (numV ((l.take (1 + wid x).toNat).drop 1))) else numV ((l.take (1 + wid x).toNat).drop 1)), .string ⟨#[]⟩], .int .i64 (1 + wid x), .nilIface]) ∧ Below w.heap.size w w' := by
  have hx' := cell_new hx
  have hw0 : 0 ≤ wid x ∧ wid x ≤ 8 := by unfold wid; split <;> (try split) <;> (try split) <;> omega
  obtain ⟨hw0, hw1⟩ := hw0
  obtain ⟨A', hsl, hC⟩ := tail_of l (some ad) c (1 + wid x).toNat 1 w hr (by omega) (by omega) (by omega) hc
  rw [show (1 : Int).toNat = 1 from rfl] at hsl hC
  have hn : (1 + wid x).toNat - 1 = (wid x).toNat := by omega
  rw [hn] at hsl hC
  generalize hz : (l.take (1 + wid x).toNat).drop 1 = z at hC ⊢
  have hzl : z.length = (wid x).toNat := by rw [← hz, List.length_drop, List.length_take]; omega
  have hzB : ∀ x ∈ z, 0 ≤ x ∧ x ≤ 255 := fun q hq => hB q (by rw [← hz] at hq; exact List.mem_of_mem_take (List.mem_of_mem_drop hq))
  have HZ := Aside0.mk hzl
  have HC := Aside0.mk hC
  have HZB := Aside0.mk hzB
  generalize l.length = len at *
  clear hx hr hz hn hzl hC hzB hB
  generalize hm2 : (wid x).toNat = m at *
  have hm8 : m ≤ 8 := by omega
  obtain ⟨iv, hiv⟩ : ∃ iv, iv = (if x = 1 then wrap64 (IntKind.i16.wrap (numV z)) else numV z) := ⟨_, rfl⟩
  rw [← hiv]
  have HIV := Aside0.mk hiv
  clear hiv
  have HM := Aside0.mk hm2
  clear hm2
  go_enter Tryd.func21, Tryd.ntmps21
  go_wp2_with fail
  refine (cut_ok _ len _ 1 _ (by omega) (by omega) (by omega) (by omega)).mono ?_
  rintro e w' ⟨rfl, rfl⟩
  go_wp2_with fail
  refine (value_width.calls x (wid x) _ (by unfold value_width.f wid; split <;> (try split) <;> (try split) <;> rfl)).mono ?_
  rintro e w' ⟨rfl, ⟨nd, rfl⟩⟩
  go_wp2_with fail
  refine (cut_ok _ len _ (1 + wid x) _ (by omega) (by omega) (by omega) (by omega)).mono ?_
  rintro e w' ⟨rfl, rfl⟩
  go_wp2_with fail
  go_loopw [72] (fun v wr => ∃ k : Nat, k ≤ m ∧ v = .int .i64 k ∧ Aside0 (wr.heap[w.heap.size]? = some (.cells #[.int .i64 x, .int .i64 (numV (z.take k)), .string ⟨#[]⟩] 23 (0, 0))) ∧ Aside0 (Below w.heap.size w wr)) (fun v _ => m - (intOf v).toNat)
  case atStart => exact ⟨0, Nat.zero_le _, rfl, ⟨by repeat (first | exact blk_new _ _ | refine blk_drewN ?_ _)⟩, ⟨by repeat (first | exact Below.refl _ _ | apply below_alloc | apply pw_below_drewN)⟩⟩
  case round =>
    obtain ⟨k, hk, rfl, HK, HBL⟩ := hrel
    have c0 := (blk_cell HK.out 0).trans rfl
    have c1 := (blk_cell HK.out 1).trans rfl
    have c2 := (blk_cell HK.out 2).trans rfl
    have f0 := blk_frozen HK.out 0
    have f1 := blk_frozen HK.out 1
    have f2 := blk_frozen HK.out 2
    by_cases hlt : k < m
    · obtain ⟨ad2, e2, hcell⟩ := Kd.at_int (Kd.C_below HC.out HBL.out) k (by omega) (by omega)
      cases e2
      have hz := bytes_rd HZB.out (i := k) (by rw [HZ.out]; exact hlt)
      obtain ⟨hz0, hz1⟩ := hz
      have HV := Aside0.mk (numV_take z k (by rw [HZ.out]; exact hlt))
      rw [Int.toNat_natCast] at hcell
      go_wp2
      go_roundw
      case rel => exact ⟨k + 1, by omega, by go_num, ⟨by rw [HV.out]; exact blk_put HK.out 1 _ rfl⟩, ⟨below_set HBL.out (Nat.le_refl _)⟩⟩
      case measure => simp [intOf]; omega
    · have hkm : k = m := by omega
      subst hkm
      have hzk : z.take k = z := by rw [← HZ.out]; exact List.take_length
      rw [hzk] at HK c1
      clear hlt hzk c0 c1 c2
      have c0 : wr.cell? ⟨w.heap.size, 0, none⟩ = some (.int .i64 x) := (blk_cell HK.out 0).trans rfl
      have c1 : wr.cell? ⟨w.heap.size, 1, none⟩ = some (.int .i64 (numV z)) := (blk_cell HK.out 1).trans rfl
      have c2 : wr.cell? ⟨w.heap.size, 2, none⟩ = some (.string ⟨#[]⟩) := (blk_cell HK.out 2).trans rfl
      by_cases h1 : x = 1
      · have h1b : (x == 1) = true := beq_iff_eq.mpr h1
        have hv := HIV.out
        rw [if_pos h1] at hv
        clear h1
        have HV := Aside0.mk hv
        clear hv
        go_wp2
        refine bodyPost_ret (results_ctt rfl _ _ w.heap.size 23 _ (0, 0) _ rfl (blk_three (blk_set HK.out _ _) rfl _ _ _) Tryd.underlying23 rfl (by kernel_rfl)) rfl ?_
        exact ⟨by rw [HV.out]; rfl, by repeat (first | exact HBL.out | refine below_set ?_ (Nat.le_refl _))⟩
      · have h1b : (x == 1) = false := beq_eq_false_iff_ne.mpr h1
        have hv := HIV.out
        rw [if_neg h1] at hv
        clear h1
        have HV := Aside0.mk hv
        clear hv
        go_wp2
        refine bodyPost_ret (results_ctt rfl _ _ w.heap.size 23 _ (0, 0) _ rfl (blk_three HK.out rfl _ _ _) Tryd.underlying23 rfl (by kernel_rfl)) rfl ?_
        exact ⟨by rw [HV.out]; rfl, by repeat (first | exact HBL.out | refine below_set ?_ (Nat.le_refl _))⟩

/-! ### read, whole -/
theorem first_cells {l : List Int} {A : Option Addr} {w : World} (hr : Kd.C (Kd.int .u8) w A l.length l) (h : 0 < l.length) : ∃ ad, A = some ad ∧ w.cell? ad = some (.int .u8 (rd l 0)) := by
  obtain ⟨ad, e, hx⟩ := Kd.at_int hr 0 (by omega) (by omega)
  exact ⟨ad, e, by simpa [Addr.add] using hx⟩
theorem second_cells {l : List Int} {ad : Addr} {w : World} (hr : Kd.C (Kd.int .u8) w (some ad) l.length l) (h : 1 < l.length) : w.cell? ⟨ad.block, ad.off + 1, none⟩ = some (.int .u8 (rd l 1)) := by
  obtain ⟨ad', e, hx⟩ := Kd.at_int hr 1 (by omega) (by omega)
  cases e
  simpa [Addr.add] using hx
theorem len_of {l : List Int} {A : Option Addr} {w : World} (hr : Kd.C (Kd.int .u8) w A l.length l) : l.length ≤ 9223372036854775807 := (Kd.reads_of_C (enc := Value.int .u8) (d := (0 : Int)) (h1 := fun _ => rfl) hr).2.1

theorem read_none (a : Addr) (A : Option Addr) (c : Nat) (l : List Int) (w : World) (hG : LaidAt w a) (hr : Kd.C (Kd.int .u8) w A l.length l) (hc : l.length ≤ c) (hB : ∀ x ∈ l, 0 ≤ x ∧ x ≤ 255) (h : readV l = none) :
    Calls Tryd.prog 21 #[.slice A l.length c] w (ReadErr a w) := by
  unfold readV at h
  by_cases h0 : l.length = 0
  · rw [h0]
    exact read_empty a A c w hG
  · rw [if_neg h0] at h
    obtain ⟨ad, rfl, hx⟩ := first_cells hr (by omega)
    have hb := bytes_rd hB (i := 0) (by omega)
    have hl := len_of hr
    by_cases h4 : rd l 0 = 4
    · rw [if_pos h4] at h
      rw [h4] at hx
      by_cases h2 : l.length < 2
      · have h1 : l.length = 1 := by omega
        rw [h1] at hc ⊢
        exact read_text1 a ad c w hG hc hx
      · rw [if_neg h2] at h
        have hb1 := bytes_rd hB (i := 1) (by omega)
        by_cases h3 : (l.length : Int) < 2 + rd l 1
        · exact read_text2 a ad l.length c (rd l 1) w hG hl (by omega) hc hx (second_cells hr (by omega)) hb1.1 hb1.2 h3
        · rw [if_neg h3] at h
          cases h
    · rw [if_neg h4] at h
      by_cases h3 : (l.length : Int) < 1 + wid (rd l 0)
      · exact read_num0 a ad l.length c (rd l 0) w hG hl (by omega) hc hx hb.1 hb.2 (beq_eq_false_iff_ne.mpr h4) h3
      · rw [if_neg h3] at h
        cases h

theorem read_some (A : Option Addr) (c : Nat) (l : List Int) (t i : Int) (s : ByteArray) (n : Int) (w : World) (hr : Kd.C (Kd.int .u8) w A l.length l) (hc : l.length ≤ c) (hB : ∀ x ∈ l, 0 ≤ x ∧ x ≤ 255) (h : readV l = some (t, i, s, n)) :
    Calls Tryd.prog 21 #[.slice A l.length c] w fun e w' => e = .returned (.tuple #[.agg #[.int .i64 t, .int .i64 i, .string s], .int .i64 n, .nilIface]) ∧ Below w.heap.size w w' := by
  unfold readV at h
  by_cases h0 : l.length = 0
  · rw [if_pos h0] at h
    cases h
  · rw [if_neg h0] at h
    obtain ⟨ad, rfl, hx⟩ := first_cells hr (by omega)
    have hb := bytes_rd hB (i := 0) (by omega)
    have hl := len_of hr
    by_cases h4 : rd l 0 = 4
    · rw [if_pos h4] at h
      rw [h4] at hx
      by_cases h2 : l.length < 2
      · rw [if_pos h2] at h
        cases h
      · rw [if_neg h2] at h
        have hb1 := bytes_rd hB (i := 1) (by omega)
        by_cases h3 : (l.length : Int) < 2 + rd l 1
        · rw [if_pos h3] at h
          cases h
        · rw [if_neg h3] at h
          simp only [Option.some.injEq, Prod.mk.injEq] at h
          obtain ⟨rfl, rfl, rfl, rfl⟩ := h
          exact read_text ad c l (rd l 1) w hl (by omega) hc hr hx (second_cells hr (by omega)) hb1.1 hb1.2 (by omega)
    · rw [if_neg h4] at h
      by_cases h3 : (l.length : Int) < 1 + wid (rd l 0)
      · rw [if_pos h3] at h
        cases h
      · rw [if_neg h3] at h
        simp only [Option.some.injEq, Prod.mk.injEq] at h
        obtain ⟨rfl, rfl, rfl, rfl⟩ := h
        exact read_num ad c l (rd l 0) w hl (by omega) hc hr hB hx hb.1 hb.2 (beq_eq_false_iff_ne.mpr h4) (by omega)

/-! ### Take -/
def takeV (l : List Int) : Int × Int × ByteArray × Int × Bool :=
  match readV l with
  | none => (0, 0, ⟨#[]⟩, 0, false)
  | some (t, i, s, n) => if value_May.f t i s = some true then (t, i, s, n, true) else (0, 0, ⟨#[]⟩, 0, false)
def value_Take.f (l : List Int) : Option (Int × Int × ByteArray × Int × Bool) := if l.all (fun x => decide (0 ≤ x) && decide (x ≤ 255)) = true then some (takeV l) else none

theorem may_total (t i : Int) (s : ByteArray) : ∃ b, value_May.f t i s = some b := by
  unfold value_May.f
  repeat' split
  all_goals exact ⟨_, rfl⟩

set_option maxHeartbeats 1000000 in
theorem take_err (a : Addr) (A : Option Addr) (c : Nat) (l : List Int) (w : World) (hG : LaidAt w a) (hr : Kd.C (Kd.int .u8) w A l.length l) (hc : l.length ≤ c) (hB : ∀ x ∈ l, 0 ≤ x ∧ x ≤ 255) (h : readV l = none) :
    Calls Tryd.prog 10 #[.slice A l.length c] w fun e w' => e = .returned (.tuple #[.agg #[.int .i64 0, .int .i64 0, .string ⟨#[]⟩], .int .i64 0, .bool false]) ∧ Below w.heap.size w w' := by
  have HR := Aside0.mk hr
  have HBY := Aside0.mk hB
  have HH := Aside0.mk h
  clear hr hB h
  go_enter Tryd.func10, Tryd.ntmps10
  go_wp2_with fail
  refine (read_none a A c l _ (hG.mono ((Below.refl _ _).alloc (Nat.le_refl _) _)) (Kd.C_alloc HR.out _) hc HBY.out HH.out).mono ?_
  rintro e w1 ⟨t, i, s, n, rfl, hb⟩
  have hbw := below_step ((Below.refl _ _).alloc (Nat.le_refl _) _) hb
  have hg1 : w1.cell? ⟨0, 0, none⟩ = some (.iface 76 (.pointer (some a))) := hG.mono hbw
  have hblk : w1.heap[w.heap.size]? = some (.cells #[.int .i64 0, .int .i64 0, .string ⟨#[]⟩] 23 (0, 0)) := blk_below (blk_new w _) hb
  have c0 : w1.cell? ⟨w.heap.size, 0, none⟩ = some (.int .i64 0) := (blk_cell hblk 0).trans rfl
  have f0 := blk_frozen hblk 0
  have c1 : w1.cell? ⟨w.heap.size, 1, none⟩ = some (.int .i64 0) := (blk_cell hblk 1).trans rfl
  have f1 := blk_frozen hblk 1
  have c2 : w1.cell? ⟨w.heap.size, 2, none⟩ = some (.string ⟨#[]⟩) := (blk_cell hblk 2).trans rfl
  have f2 := blk_frozen hblk 2
  go_wp2_with ((with_reducible refine gate_store (t := 23) (p := 2) rfl ?_); refine store_event (t := 23) (p := 2) (v := ?vo) (w1 := ((w1.setCell ⟨w.heap.size, 0, none⟩ (.int .i64 t)).setCell ⟨w.heap.size, 1, none⟩ (.int .i64 i)).setCell ⟨w.heap.size, 2, none⟩ (.string s)) ?hg ?ho ?hn ?hr ?_; (case ho => rfl); (case hg => rfl); (case hn => rfl); (case hr => first | (go_simp; done) | (go_simp; rfl)); intro w2 hw; have hblk2 : w2.heap[w.heap.size]? = some (.cells #[.int .i64 t, .int .i64 i, .string s] 23 (0, 0)) := (by rw [hw]; exact blk_three hblk rfl _ _ _); have hb2 : Below w.heap.size w w2 := (by rw [hw]; exact below_set (below_set (below_set hbw (Nat.le_refl _)) (Nat.le_refl _)) (Nat.le_refl _)); have hg2 : w2.cell? ⟨0, 0, none⟩ = some (.iface 76 (.pointer (some a))) := hG.mono hb2; have HB2 := Aside0.mk hb2; have HK2 := Aside0.mk hblk2; clear hb2 hblk2 hw hg1 hblk hbw hb c0 c1 c2 f0 f1 f2)
  refine (is_wrap _ a w2).mono ?_
  rintro e w3 ⟨rfl, hb⟩
  have HB3 := Aside0.mk (below_step HB2.out hb)
  have HK3 := Aside0.mk (blk_below HK2.out hb)
  have c0 : w3.cell? ⟨w.heap.size, 0, none⟩ = some (.int .i64 t) := (blk_cell HK3.out 0).trans rfl
  have c1 : w3.cell? ⟨w.heap.size, 1, none⟩ = some (.int .i64 i) := (blk_cell HK3.out 1).trans rfl
  have c2 : w3.cell? ⟨w.heap.size, 2, none⟩ = some (.string s) := (blk_cell HK3.out 2).trans rfl
  have f0 := blk_frozen HK3.out 0
  have f1 := blk_frozen HK3.out 1
  have f2 := blk_frozen HK3.out 2
  clear hb HB2 HK2 hg2
  go_wp2_with fail
  refine bodyPost_ret (results_ctt rfl _ _ w.heap.size 23 _ (0, 0) _ rfl (blk_three HK3.out rfl _ _ _) Tryd.underlying23 rfl (by kernel_rfl)) rfl ?_
  exact ⟨rfl, by repeat (first | exact HB3.out | refine below_set ?_ (Nat.le_refl _))⟩

set_option maxHeartbeats 2000000 in
theorem take_ok (a : Addr) (A : Option Addr) (c : Nat) (l : List Int) (t i : Int) (s : ByteArray) (n : Int) (b : Bool) (w : World) (hG : LaidAt w a) (hr : Kd.C (Kd.int .u8) w A l.length l) (hc : l.length ≤ c) (hB : ∀ x ∈ l, 0 ≤ x ∧ x ≤ 255)
    (h : readV l = some (t, i, s, n)) (hm : value_May.f t i s = some b) (ot oi : Int) (os : ByteArray) (on : Int) (ho : (ot, oi, os, on) = if b = true then (t, i, s, n) else (0, 0, ⟨#[]⟩, 0)) :
    Calls Tryd.prog 10 #[.slice A l.length c] w fun e w' => e = .returned (.tuple #[.agg #[.int .i64 ot, .int .i64 oi, .string os], .int .i64 on, .bool b]) ∧ Below w.heap.size w w' := by
  have HR := Aside0.mk hr
  have HBY := Aside0.mk hB
  have HH := Aside0.mk h
  have HM := Aside0.mk hm
  have HO := Aside0.mk ho
  clear hr hB h hm ho
  go_enter Tryd.func10, Tryd.ntmps10
  go_wp2_with fail
  refine (read_some A c l t i s n _ (Kd.C_alloc HR.out _) hc HBY.out HH.out).mono ?_
  rintro e w1 ⟨rfl, hb⟩
  have hbw := below_step ((Below.refl _ _).alloc (Nat.le_refl _) _) hb
  have hg1 : w1.cell? ⟨0, 0, none⟩ = some (.iface 76 (.pointer (some a))) := hG.mono hbw
  have hblk : w1.heap[w.heap.size]? = some (.cells #[.int .i64 0, .int .i64 0, .string ⟨#[]⟩] 23 (0, 0)) := blk_below (blk_new w _) hb
  have c0 : w1.cell? ⟨w.heap.size, 0, none⟩ = some (.int .i64 0) := (blk_cell hblk 0).trans rfl
  have f0 := blk_frozen hblk 0
  have c1 : w1.cell? ⟨w.heap.size, 1, none⟩ = some (.int .i64 0) := (blk_cell hblk 1).trans rfl
  have f1 := blk_frozen hblk 1
  have c2 : w1.cell? ⟨w.heap.size, 2, none⟩ = some (.string ⟨#[]⟩) := (blk_cell hblk 2).trans rfl
  have f2 := blk_frozen hblk 2
  go_wp2_with ((with_reducible refine gate_store (t := 23) (p := 2) rfl ?_); refine store_event (t := 23) (p := 2) (v := ?vo) (w1 := ((w1.setCell ⟨w.heap.size, 0, none⟩ (.int .i64 t)).setCell ⟨w.heap.size, 1, none⟩ (.int .i64 i)).setCell ⟨w.heap.size, 2, none⟩ (.string s)) ?hg ?ho ?hn ?hr ?_; (case ho => rfl); (case hg => rfl); (case hn => rfl); (case hr => first | (go_simp; done) | (go_simp; rfl)); intro w2 hw; have hblk2 : w2.heap[w.heap.size]? = some (.cells #[.int .i64 t, .int .i64 i, .string s] 23 (0, 0)) := (by rw [hw]; exact blk_three hblk rfl _ _ _); have hb2 : Below w.heap.size w w2 := (by rw [hw]; exact below_set (below_set (below_set hbw (Nat.le_refl _)) (Nat.le_refl _)) (Nat.le_refl _)); have hg2 : w2.cell? ⟨0, 0, none⟩ = some (.iface 76 (.pointer (some a))) := hG.mono hb2; have HB2 := Aside0.mk hb2; have HK2 := Aside0.mk hblk2; clear hb2 hblk2 hw hg1 hblk hbw hb c0 c1 c2 f0 f1 f2)
  refine (is_nil a w2).mono ?_
  rintro e w3 ⟨rfl, rfl⟩
  have c0 : w3.cell? ⟨w.heap.size, 0, none⟩ = some (.int .i64 t) := (blk_cell HK2.out 0).trans rfl
  have f0 := blk_frozen HK2.out 0
  have c1 : w3.cell? ⟨w.heap.size, 1, none⟩ = some (.int .i64 i) := (blk_cell HK2.out 1).trans rfl
  have f1 := blk_frozen HK2.out 1
  have c2 : w3.cell? ⟨w.heap.size, 2, none⟩ = some (.string s) := (blk_cell HK2.out 2).trans rfl
  have f2 := blk_frozen HK2.out 2
  go_wp2_with fail
  refine (value_May.calls t i s b _ HM.out).mono ?_
  rintro e w4 ⟨rfl, hb⟩
  have HB4 := Aside0.mk (below_step HB2.out hb)
  have HK4 := Aside0.mk (blk_below HK2.out hb)
  clear hb c0 c1 c2 f0 f1 f2 hg2
  have c0 : w4.cell? ⟨w.heap.size, 0, none⟩ = some (.int .i64 t) := (blk_cell HK4.out 0).trans rfl
  have f0 := blk_frozen HK4.out 0
  have c1 : w4.cell? ⟨w.heap.size, 1, none⟩ = some (.int .i64 i) := (blk_cell HK4.out 1).trans rfl
  have f1 := blk_frozen HK4.out 1
  have c2 : w4.cell? ⟨w.heap.size, 2, none⟩ = some (.string s) := (blk_cell HK4.out 2).trans rfl
  have f2 := blk_frozen HK4.out 2
  cases b
  · have ho := HO.out
    simp only [Bool.false_eq_true, if_false, Prod.mk.injEq] at ho
    obtain ⟨e1, e2, e3, e4⟩ := ho
    have HQ := Aside0.mk (And.intro e1 (And.intro e2 (And.intro e3 e4)))
    clear e1 e2 e3 e4 HO
    go_wp2_with fail
    refine bodyPost_ret (results_ctt rfl _ _ w.heap.size 23 _ (0, 0) _ rfl (blk_three HK4.out rfl _ _ _) Tryd.underlying23 rfl (by kernel_rfl)) rfl ?_
    exact ⟨by rw [HQ.out.1, HQ.out.2.1, HQ.out.2.2.1, HQ.out.2.2.2]; rfl, by repeat (first | exact HB4.out | refine below_set ?_ (Nat.le_refl _))⟩
  · have ho := HO.out
    simp only [if_true, Prod.mk.injEq] at ho
    obtain ⟨e1, e2, e3, e4⟩ := ho
    have HQ := Aside0.mk (And.intro e1 (And.intro e2 (And.intro e3 e4)))
    clear e1 e2 e3 e4 HO
    go_wp2_with fail
    refine bodyPost_ret (results_ctt rfl _ _ w.heap.size 23 _ (0, 0) _ rfl (by first | exact HK4.out | exact blk_three HK4.out rfl _ _ _) Tryd.underlying23 rfl (by kernel_rfl)) rfl ?_
    exact ⟨by rw [HQ.out.1, HQ.out.2.1, HQ.out.2.2.1, HQ.out.2.2.2]; rfl, by repeat (first | exact HB4.out | refine below_set ?_ (Nat.le_refl _))⟩

theorem value_Take.calls (A0 : Option Addr) (c0 : Nat) (l0 : List Int) (r1 : Int) (r2 : Int) (r3 : ByteArray) (r4 : Int) (r5 : Bool) (w : World) (hG : Laid w) (hr0 : Kd.C (Kd.int .u8) w A0 l0.length l0) (hc0 : l0.length ≤ c0) (h : value_Take.f l0 = some (r1, r2, r3, r4, r5)) :
    Calls Tryd.prog 10 #[.slice A0 l0.length c0] w fun e w' => e = .returned (.tuple #[.agg #[.int .i64 r1, .int .i64 r2, .string r3], .int .i64 r4, .bool r5]) ∧ Below w.heap.size w w' := by
  obtain ⟨a, hG⟩ := hG
  unfold value_Take.f at h
  split at h
  · rename_i hb
    have hB : ∀ x ∈ l0, 0 ≤ x ∧ x ≤ 255 := fun x hx => by
      have := List.all_eq_true.1 hb x hx
      simpa using this
    have h := Option.some.inj h
    unfold takeV at h
    rcases hv : readV l0 with _ | ⟨t, i, s, n⟩
    · rw [hv] at h
      simp only [Prod.mk.injEq] at h
      obtain ⟨rfl, rfl, rfl, rfl, rfl⟩ := h
      exact take_err a A0 c0 l0 w hG hr0 hc0 hB hv
    · rw [hv] at h
      obtain ⟨b, hm⟩ := may_total t i s
      simp only [hm, Option.some.injEq] at h
      cases b
      · simp only [Bool.false_eq_true, if_false, Prod.mk.injEq] at h
        obtain ⟨rfl, rfl, rfl, rfl, rfl⟩ := h
        exact take_ok a A0 c0 l0 t i s n false w hG hr0 hc0 hB hv hm _ _ _ _ (by simp)
      · simp only [if_true, Prod.mk.injEq] at h
        obtain ⟨rfl, rfl, rfl, rfl, rfl⟩ := h
        exact take_ok a A0 c0 l0 t i s n true w hG hr0 hc0 hB hv hm _ _ _ _ (by simp)
  · cases h
end Go.Proofs.YtbkgdkhdmchdcaaDoor.Ext
