/- Cells of a row: attributes, blanks, copies, comparing: each call's contract. -/
import Derived.Test.YtbjckahaalbpaaaDoorCel
import Derived.Deep.DeepMust
set_option linter.unusedVariables false
set_option linter.unusedSimpArgs false
namespace Go.Proofs.YtbjckahaalbpaaaDoor
open Go Go.RowKit

def colourOk (n : Int) : Bool := decide (-1 ≤ n ∧ n ≤ 16777471)
def attrOk (a : Attr) : Bool := colourOk a.fg && colourOk a.bg && decide (0 ≤ a.fl ∧ a.fl ≤ 255)
theorem colour_is {n : Int} {x : Bool} (h : colourOk n = x) (w : World) : Calls Tryd.prog 112 #[.int .i64 n] w fun e w' => e = .returned (.bool x) ∧ w = w' := by
  have H := hid h
  clear h
  go_enter Tryd.func112, Tryd.ntmps112
  go_wp2
  all_goals (go_ret; exact ⟨ret_bool (by rw [← H.out, colourOk, Bool.eq_iff_iff]; simp; omega), rfl⟩)
theorem rcolour_is {n : Int} {x : Bool} (h : colourOk n = x) (w : World) : Calls Tryd.prog 94 #[.int .i64 n] w fun e w' => e = .returned (.bool x) ∧ w = w' := by
  have H := hid (show decide ((-1 : Int) ≤ n ∧ n ≤ 16777471) = x from h)
  clear h
  go_enter Tryd.func94, Tryd.ntmps94
  go_wp2_with (go_at_call 63; (with_reducible refine (between_num_is H.out _).mono ?_); rintro e w' ⟨rfl, rfl⟩)
  go_ret
  exact ⟨rfl, rfl⟩
theorem attr_is {a : Attr} {x : Bool} (h : attrOk a = x) (w : World) : Calls Tryd.prog 99 #[.agg #[.int .i64 a.fg, .int .i64 a.bg, .int .i64 a.fl]] w fun e w' => e = .returned (.bool x) ∧ Below w.heap.size w w' := by
  obtain ⟨c1, h1⟩ : ∃ c, colourOk a.fg = c := ⟨_, rfl⟩
  obtain ⟨c2, h2⟩ : ∃ c, colourOk a.bg = c := ⟨_, rfl⟩
  have H := hid h
  have H1 := hid h1
  have H2 := hid h2
  clear h h1 h2
  go_enter Tryd.func99, Tryd.ntmps99
  go_wp2_with (first | (go_at_call 112; (with_reducible refine (colour_is H1.out _).mono ?_); rintro e w' ⟨rfl, rfl⟩) | (go_at_call 112; (with_reducible refine (colour_is H2.out _).mono ?_); rintro e w' ⟨rfl, rfl⟩))
  all_goals (go_ret; exact ⟨ret_bool (by rw [← H.out, attrOk, H1.out, H2.out, Bool.eq_iff_iff]; simp [*]; try omega), alloc_below (Below.refl _ _) _⟩)
theorem rattr_is {a : Attr} {x : Bool} (h : attrOk a = x) (w : World) : Calls Tryd.prog 67 #[.agg #[.int .i64 a.fg, .int .i64 a.bg, .int .i64 a.fl]] w fun e w' => e = .returned (.bool x) ∧ Below w.heap.size w w' := by
  obtain ⟨c1, h1⟩ : ∃ c, colourOk a.fg = c := ⟨_, rfl⟩
  obtain ⟨c2, h2⟩ : ∃ c, colourOk a.bg = c := ⟨_, rfl⟩
  obtain ⟨c3, h3⟩ : ∃ c, decide (0 ≤ a.fl ∧ a.fl ≤ 255) = c := ⟨_, rfl⟩
  have H := hid h
  have H1 := hid h1
  have H2 := hid h2
  have H3 := hid h3
  clear h h1 h2 h3
  go_enter Tryd.func67, Tryd.ntmps67
  go_wp2_with (first | (go_at_call 94; (with_reducible refine (rcolour_is H1.out _).mono ?_); rintro e w' ⟨rfl, rfl⟩) | (go_at_call 94; (with_reducible refine (rcolour_is H2.out _).mono ?_); rintro e w' ⟨rfl, rfl⟩) | (go_at_call 27; (with_reducible refine (num_is H3.out _).mono ?_); rintro e w' ⟨rfl, rfl⟩))
  all_goals (go_ret; exact ⟨ret_bool (by rw [← H.out, attrOk, H1.out, H2.out, H3.out]; simp [*]), alloc_below (Below.refl _ _) _⟩)

def bare (a : Attr) : Cell := ⟨32, ⟨#[]⟩, 0, ⟨-1, a.bg, 0⟩⟩
theorem rblank_any (a : Attr) (w : World) : Calls Tryd.prog 117 #[.agg #[.int .i64 a.fg, .int .i64 a.bg, .int .i64 a.fl]] w fun e w' => e = .returned (.agg #[.int .i64 32, .string ⟨#[]⟩, .int .i64 0, .int .i64 (-1), .int .i64 a.bg, .int .i64 0]) ∧ Below w.heap.size w w' := by
  go_enter Tryd.func117, Tryd.ntmps117
  go_wp2
  exact bodyPost_ret (v := .agg #[.int .i64 32, .string ⟨#[]⟩, .int .i64 0, .int .i64 (-1), .int .i64 a.bg, .int .i64 0]) (by simp [results, Tryd.results117, go_sem]) rfl ⟨rfl, alloc_below (alloc_below (Below.refl _ _) _) _⟩

/-- cells from one place to another one made blank -/
def fillL (a : Attr) (L : List Cell) : List Cell := tab L.length fun _ => bare a
end Go.Proofs.YtbjckahaalbpaaaDoor
