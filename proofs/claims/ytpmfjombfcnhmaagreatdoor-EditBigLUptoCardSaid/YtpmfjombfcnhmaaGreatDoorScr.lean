/- Screens: how one lies in memory; cursors, margins, titles: may they be? -/
import Derived.Test.YtpmfjombfcnhmaaGreatDoorGrid
import Derived.Test.YtpmfjombfcnhmaaGreatDoorTab
set_option linter.unusedVariables false
set_option linter.unusedSimpArgs false
namespace Go.Proofs.YtpmfjombfcnhmaaGreatDoor
open Go Go.RowKit

structure Cur where
  (row col : Int) (wrap : Bool) (a : Attr) (g0 g1 sh : Int) (org : Bool)
  deriving DecidableEq

def setOk1 (n : Int) : Bool := decide (n = 0 ∨ n = 1)
/-- a cursor may be, of a size -/
def curOk (c : Cur) (rows cols : Int) : Bool := decide (0 ≤ c.row ∧ c.row < rows) && decide (0 ≤ c.col ∧ c.col < cols) && decide (c.wrap = true → c.col = cols - 1) && attrOk c.a && setOk1 c.g0 && setOk1 c.g1 && setOk1 c.sh
theorem set_is {n : Int} {x : Bool} (h : setOk1 n = x) (w : World) : Calls Tryz.prog 97 #[.int .i64 n] w fun e w' => e = .returned (.bool x) ∧ w = w' := by
  have H := hid h
  clear h
  go_enter Tryz.func97, Tryz.ntmps97
  go_wp2
  all_goals (go_ret; exact ⟨ret_bool (by rw [← H.out, setOk1, Bool.eq_iff_iff]; simp; try omega), rfl⟩)
theorem moded_is {n : Int} {x : Bool} (h : decide (0 ≤ n ∧ n ≤ 1023) = x) (w : World) : Calls Tryz.prog 59 #[.int .i64 n] w fun e w' => e = .returned (.bool x) ∧ w = w' := by
  have H := hid h
  clear h
  go_enter Tryz.func59, Tryz.ntmps59
  go_wp2
  all_goals (go_ret; exact ⟨ret_bool (by rw [← H.out, Bool.eq_iff_iff]; simp; try omega), rfl⟩)

/-- a cursor that was laid in a new block -/
abbrev newCur (c : Cur) (w : World) : World := w.alloc (.cells #[.int .i64 c.row, .int .i64 c.col, .bool c.wrap, .int .i64 c.a.fg, .int .i64 c.a.bg, .int .i64 c.a.fl, .int .i64 c.g0, .int .i64 c.g1, .int .i64 c.sh, .bool c.org] 35)
theorem newCur_cells (c : Cur) {w W : World} (h : Below (newCur c w).heap.size (newCur c w) W) (k : Nat) (v : Value) (hk : (#[.int .i64 c.row, .int .i64 c.col, .bool c.wrap, .int .i64 c.a.fg, .int .i64 c.a.bg, .int .i64 c.a.fl, .int .i64 c.g0, .int .i64 c.g1, .int .i64 c.sh, .bool c.org] : Array Value)[k]? = some v) : W.cell? ⟨w.heap.size, k, none⟩ = some v :=
  cell_below h ((cell_new _ _ _ _ _).trans hk)
theorem newCur_below (c : Cur) {w W : World} (h : Below (newCur c w).heap.size (newCur c w) W) : Below w.heap.size w W := after (alloc_below (Below.refl _ _) _) h

set_option maxHeartbeats 1000000 in
theorem curP_is {c : Cur} {rows cols : Int} {x : Bool} (h : curOk c rows cols = x) (w : World) (hc : 1 ≤ cols ∧ cols ≤ 40) :
    Calls Tryz.prog 56 #[.agg #[.int .i64 c.row, .int .i64 c.col, .bool c.wrap, .int .i64 c.a.fg, .int .i64 c.a.bg, .int .i64 c.a.fl, .int .i64 c.g0, .int .i64 c.g1, .int .i64 c.sh, .bool c.org], .int .i64 rows, .int .i64 cols] w fun e w' => e = .returned (.bool x) ∧ Below w.heap.size w w' := by
  obtain ⟨row, col, wrap, ca, g0, g1, sh, org⟩ := c
  obtain ⟨p, hp⟩ : ∃ v, (decide (0 ≤ row ∧ row < rows) && decide (0 ≤ col ∧ col < cols) && decide (wrap = true → col = cols - 1)) = v := ⟨_, rfl⟩
  obtain ⟨q, hq⟩ : ∃ v, attrOk ca = v := ⟨_, rfl⟩
  obtain ⟨q0, hq0⟩ : ∃ v, setOk1 g0 = v := ⟨_, rfl⟩
  obtain ⟨q1, hq1⟩ : ∃ v, setOk1 g1 = v := ⟨_, rfl⟩
  have H := hid (show (p && q && q0 && q1 && setOk1 sh) = x by rw [← h, curOk, ← hp]; simp only [hq, hq0, hq1])
  have HP := hid hp
  have HQ := hid hq
  have HQ0 := hid hq0
  have HQ1 := hid hq1
  have hs : IntKind.i64.wrap (cols - 1) = cols - 1 := IntWalk.i64_in _ (by omega)
  clear h hp hq hq0 hq1
  cases wrap
  all_goals
   go_enter Tryz.func56, Tryz.ntmps56
   go_wp2_with (first | (go_at_call 96; (with_reducible refine (attr_is HQ.out _).mono ?_); rintro e w1 ⟨rfl, hB⟩; have h4 : w1.cell? ⟨w.heap.size, 6, none⟩ = some (.int .i64 g0) := newCur_cells ⟨_, _, _, ca, g0, g1, sh, org⟩ hB 6 _ rfl; have h5 : w1.cell? ⟨w.heap.size, 7, none⟩ = some (.int .i64 g1) := newCur_cells ⟨_, _, _, ca, g0, g1, sh, org⟩ hB 7 _ rfl; have h6 : w1.cell? ⟨w.heap.size, 8, none⟩ = some (.int .i64 sh) := newCur_cells ⟨_, _, _, ca, g0, g1, sh, org⟩ hB 8 _ rfl; have HB1 := hid hB; clear hB) | (go_at_call 97; (with_reducible refine (set_is HQ0.out _).mono ?_); rintro e w2 ⟨rfl, rfl⟩) | (go_at_call 97; (with_reducible refine (set_is HQ1.out _).mono ?_); rintro e w2 ⟨rfl, rfl⟩))
   all_goals (go_ret; refine ⟨ret_bool ?_, by first | exact newCur_below ⟨_, _, _, ca, g0, g1, sh, org⟩ HB1.out | exact alloc_below (Below.refl _ _) _⟩; rw [← H.out, ← HP.out]; clear HP H; rw [Bool.eq_iff_iff]; simp_all [setOk1]; try omega)

theorem setOk1_num (n : Int) : setOk1 n = decide (0 ≤ n ∧ n ≤ 1) := by rw [setOk1, Bool.eq_iff_iff]; simp; omega
set_option maxHeartbeats 1000000 in
theorem rcur_is {c : Cur} {rows cols : Int} {x : Bool} (h : curOk c rows cols = x) (w : World) (hr : 1 ≤ rows ∧ rows ≤ 40) (hc : 1 ≤ cols ∧ cols ≤ 40) :
    Calls Tryz.prog 35 #[.agg #[.int .i64 c.row, .int .i64 c.col, .bool c.wrap, .int .i64 c.a.fg, .int .i64 c.a.bg, .int .i64 c.a.fl, .int .i64 c.g0, .int .i64 c.g1, .int .i64 c.sh, .bool c.org], .int .i64 rows, .int .i64 cols] w fun e w' => e = .returned (.bool x) ∧ Below w.heap.size w w' := by
  obtain ⟨row, col, wrap, ca, g0, g1, sh, org⟩ := c
  obtain ⟨p1, hp1⟩ : ∃ v, decide (0 ≤ row ∧ row ≤ rows - 1) = v := ⟨_, rfl⟩
  obtain ⟨p2, hp2⟩ : ∃ v, decide (0 ≤ col ∧ col ≤ cols - 1) = v := ⟨_, rfl⟩
  obtain ⟨q, hq⟩ : ∃ v, attrOk ca = v := ⟨_, rfl⟩
  obtain ⟨q0, hq0⟩ : ∃ v, decide (0 ≤ g0 ∧ g0 ≤ 1) = v := ⟨_, rfl⟩
  obtain ⟨q1, hq1⟩ : ∃ v, decide (0 ≤ g1 ∧ g1 ≤ 1) = v := ⟨_, rfl⟩
  obtain ⟨q2, hq2⟩ : ∃ v, decide (0 ≤ sh ∧ sh ≤ 1) = v := ⟨_, rfl⟩
  have H := hid (show (p1 && p2 && decide (wrap = true → col = cols - 1) && q && q0 && q1 && q2) = x by
    rw [← h, curOk]; simp only [setOk1_num, hq, hq0, hq1, hq2, ← hp1, ← hp2]
    congr 6
    · exact decide_eq_decide.2 ⟨fun h => ⟨h.1, by omega⟩, fun h => ⟨h.1, by omega⟩⟩
    · exact decide_eq_decide.2 ⟨fun h => ⟨h.1, by omega⟩, fun h => ⟨h.1, by omega⟩⟩)
  have HP1 := hid hp1
  have HP2 := hid hp2
  have HQ := hid hq
  have HQ0 := hid hq0
  have HQ1 := hid hq1
  have HQ2 := hid hq2
  have hs : IntKind.i64.wrap (cols - 1) = cols - 1 := IntWalk.i64_in _ (by omega)
  have hs2 : IntKind.i64.wrap (rows - 1) = rows - 1 := IntWalk.i64_in _ (by omega)
  clear h hp1 hp2 hq hq0 hq1 hq2
  cases wrap
  all_goals
   go_enter Tryz.func35, Tryz.ntmps35
   go_wp2_with (first | (go_at_call 75; (with_reducible refine (rattr_is HQ.out _).mono ?_); rintro e w1 ⟨rfl, hB⟩; have h4 : w1.cell? ⟨w.heap.size, 6, none⟩ = some (.int .i64 g0) := newCur_cells ⟨_, _, _, ca, g0, g1, sh, org⟩ hB 6 _ rfl; have h5 : w1.cell? ⟨w.heap.size, 7, none⟩ = some (.int .i64 g1) := newCur_cells ⟨_, _, _, ca, g0, g1, sh, org⟩ hB 7 _ rfl; have h6 : w1.cell? ⟨w.heap.size, 8, none⟩ = some (.int .i64 sh) := newCur_cells ⟨_, _, _, ca, g0, g1, sh, org⟩ hB 8 _ rfl; have HB1 := hid hB; clear hB) | (go_at_call 37; (with_reducible refine (num_is HP1.out _).mono ?_); rintro e w2 ⟨rfl, rfl⟩) | (go_at_call 37; (with_reducible refine (num_is HP2.out _).mono ?_); rintro e w2 ⟨rfl, rfl⟩) | (go_at_call 37; (with_reducible refine (num_is HQ0.out _).mono ?_); rintro e w2 ⟨rfl, rfl⟩) | (go_at_call 37; (with_reducible refine (num_is HQ1.out _).mono ?_); rintro e w2 ⟨rfl, rfl⟩) | (go_at_call 37; (with_reducible refine (num_is HQ2.out _).mono ?_); rintro e w2 ⟨rfl, rfl⟩))
   all_goals (go_ret; refine ⟨ret_bool ?_, by first | exact newCur_below ⟨_, _, _, ca, g0, g1, sh, org⟩ HB1.out | exact alloc_below (Below.refl _ _) _⟩; rw [← H.out]; clear H HP1 HP2; rw [Bool.eq_iff_iff]; simp_all; try omega)

/-- a title may be -/
def titleOk (s : ByteArray) : Bool := decide (s.size ≤ 64) && (Lib.validD s.data.toList && !(s.data.toList.any fun b => decide (b.toNat < 32)))
end Go.Proofs.YtpmfjombfcnhmaaGreatDoor
