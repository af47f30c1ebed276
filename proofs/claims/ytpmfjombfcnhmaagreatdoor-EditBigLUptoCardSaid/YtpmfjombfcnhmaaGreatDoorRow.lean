/- Cells of a row: attributes, blanks, copies, comparing: each call's contract. -/
import Derived.Test.YtpmfjombfcnhmaaGreatDoorCel
import Derived.Deep.DeepMust
set_option linter.unusedVariables false
set_option linter.unusedSimpArgs false
namespace Go.Proofs.YtpmfjombfcnhmaaGreatDoor
open Go Go.RowKit

def colourOk (n : Int) : Bool := decide (-1 ≤ n ∧ n ≤ 16777471)
def attrOk (a : Attr) : Bool := colourOk a.fg && colourOk a.bg && decide (0 ≤ a.fl ∧ a.fl ≤ 255)
theorem colour_is {n : Int} {x : Bool} (h : colourOk n = x) (w : World) : Calls Tryz.prog 114 #[.int .i64 n] w fun e w' => e = .returned (.bool x) ∧ w = w' := by
  have H := hid h
  clear h
  go_enter Tryz.func114, Tryz.ntmps114
  go_wp2
  all_goals (go_ret; exact ⟨ret_bool (by rw [← H.out, colourOk, Bool.eq_iff_iff]; simp; omega), rfl⟩)
theorem rcolour_is {n : Int} {x : Bool} (h : colourOk n = x) (w : World) : Calls Tryz.prog 109 #[.int .i64 n] w fun e w' => e = .returned (.bool x) ∧ w = w' := by
  have H := hid (show decide ((-1 : Int) ≤ n ∧ n ≤ 16777471) = x from h)
  clear h
  go_enter Tryz.func109, Tryz.ntmps109
  go_wp2_with (go_at_call 40; (with_reducible refine (between_num_is H.out _).mono ?_); rintro e w' ⟨rfl, rfl⟩)
  go_ret
  exact ⟨rfl, rfl⟩
theorem attr_is {a : Attr} {x : Bool} (h : attrOk a = x) (w : World) : Calls Tryz.prog 96 #[.agg #[.int .i64 a.fg, .int .i64 a.bg, .int .i64 a.fl]] w fun e w' => e = .returned (.bool x) ∧ Below w.heap.size w w' := by
  obtain ⟨c1, h1⟩ : ∃ c, colourOk a.fg = c := ⟨_, rfl⟩
  obtain ⟨c2, h2⟩ : ∃ c, colourOk a.bg = c := ⟨_, rfl⟩
  have H := hid h
  have H1 := hid h1
  have H2 := hid h2
  clear h h1 h2
  go_enter Tryz.func96, Tryz.ntmps96
  go_wp2_with (first | (go_at_call 114; (with_reducible refine (colour_is H1.out _).mono ?_); rintro e w' ⟨rfl, rfl⟩) | (go_at_call 114; (with_reducible refine (colour_is H2.out _).mono ?_); rintro e w' ⟨rfl, rfl⟩))
  all_goals (go_ret; exact ⟨ret_bool (by rw [← H.out, attrOk, H1.out, H2.out, Bool.eq_iff_iff]; simp [*]; try omega), alloc_below (Below.refl _ _) _⟩)
theorem rattr_is {a : Attr} {x : Bool} (h : attrOk a = x) (w : World) : Calls Tryz.prog 75 #[.agg #[.int .i64 a.fg, .int .i64 a.bg, .int .i64 a.fl]] w fun e w' => e = .returned (.bool x) ∧ Below w.heap.size w w' := by
  obtain ⟨c1, h1⟩ : ∃ c, colourOk a.fg = c := ⟨_, rfl⟩
  obtain ⟨c2, h2⟩ : ∃ c, colourOk a.bg = c := ⟨_, rfl⟩
  obtain ⟨c3, h3⟩ : ∃ c, decide (0 ≤ a.fl ∧ a.fl ≤ 255) = c := ⟨_, rfl⟩
  have H := hid h
  have H1 := hid h1
  have H2 := hid h2
  have H3 := hid h3
  clear h h1 h2 h3
  go_enter Tryz.func75, Tryz.ntmps75
  go_wp2_with (first | (go_at_call 109; (with_reducible refine (rcolour_is H1.out _).mono ?_); rintro e w' ⟨rfl, rfl⟩) | (go_at_call 109; (with_reducible refine (rcolour_is H2.out _).mono ?_); rintro e w' ⟨rfl, rfl⟩) | (go_at_call 37; (with_reducible refine (num_is H3.out _).mono ?_); rintro e w' ⟨rfl, rfl⟩))
  all_goals (go_ret; exact ⟨ret_bool (by rw [← H.out, attrOk, H1.out, H2.out, H3.out]; simp [*]), alloc_below (Below.refl _ _) _⟩)

def bare (a : Attr) : Cell := ⟨32, ⟨#[]⟩, 0, ⟨-1, a.bg, 0⟩⟩
theorem bare_any (a : Attr) (w : World) : Calls Tryz.prog 119 #[.agg #[.int .i64 a.fg, .int .i64 a.bg, .int .i64 a.fl]] w fun e w' => e = .returned (.agg #[.int .i64 32, .string ⟨#[]⟩, .int .i64 0, .int .i64 (-1), .int .i64 a.bg, .int .i64 0]) ∧ Below w.heap.size w w' := by
  go_enter Tryz.func119, Tryz.ntmps119
  go_wp2
  exact bodyPost_ret (v := .agg #[.int .i64 32, .string ⟨#[]⟩, .int .i64 0, .int .i64 (-1), .int .i64 a.bg, .int .i64 0]) (by simp [results, Tryz.results119, go_sem]) rfl ⟨rfl, alloc_below (alloc_below (Below.refl _ _) _) _⟩
theorem rblank_any (a : Attr) (w : World) : Calls Tryz.prog 79 #[.agg #[.int .i64 a.fg, .int .i64 a.bg, .int .i64 a.fl]] w fun e w' => e = .returned (.agg #[.int .i64 32, .string ⟨#[]⟩, .int .i64 0, .int .i64 (-1), .int .i64 a.bg, .int .i64 0]) ∧ Below w.heap.size w w' := by
  go_enter Tryz.func79, Tryz.ntmps79
  go_wp2
  exact bodyPost_ret (v := .agg #[.int .i64 32, .string ⟨#[]⟩, .int .i64 0, .int .i64 (-1), .int .i64 a.bg, .int .i64 0]) (by simp [results, Tryz.results79, go_sem]) rfl ⟨rfl, alloc_below (alloc_below (Below.refl _ _) _) _⟩

/-- cells from one place to another one made blank -/
def fillL (a : Attr) (L : List Cell) : List Cell := tab L.length fun _ => bare a
set_option maxHeartbeats 1000000 in
theorem fill_any (M : List Cell) (b N o n c : Nat) (a : Attr) (w : World) (hb : Blk w b N M) (hon : o + n ≤ M.length) (hm : M.length ≤ 1000000) :
    Calls Tryz.prog 107 #[.slice (some ⟨b, o * 6, none⟩) n c, .agg #[.int .i64 a.fg, .int .i64 a.bg, .int .i64 a.fl]] w fun e w' => e = .returned (.tuple #[]) ∧ Blk w' b N (onSub o n (fillL a) M) ∧ w.grownBy w' (some b) := by
  have HBK := hid hb
  have hbl := hb.lt
  clear hb
  go_enter Tryz.func107, Tryz.ntmps107
  go_wp2
  go_loopg [4, 7] n (fun k _ v7 wr => ∃ i : Nat, v7 = .int .i64 i ∧ i ≤ n ∧ k + i = n ∧ Hid (Blk wr b N (tab M.length fun j => if o ≤ j ∧ j < o + i then bare a else at_ M j)) ∧ Hid (wr.cell? ⟨w.heap.size, 0, none⟩ = some (.int .i64 a.fg) ∧ wr.cell? ⟨w.heap.size, 1, none⟩ = some (.int .i64 a.bg) ∧ wr.cell? ⟨w.heap.size, 2, none⟩ = some (.int .i64 a.fl)) ∧ Hid (w.grownBy wr (some b)))
  case atStart =>
    refine ⟨0, rfl, by omega, by omega, hid ?_, hid ⟨by rw [cell_new]; rfl, by rw [cell_new]; rfl, by rw [cell_new]; rfl⟩, hid (grown_of_below (alloc_below (Below.refl _ _) _) _)⟩
    have := (HBK.out.below (alloc_below (Below.refl _ _) (.cells #[.int .i64 a.fg, .int .i64 a.bg, .int .i64 a.fl] 33)))
    refine Eq.mp (congrArg _ ?_) this
    have e := tab_at M
    refine Eq.trans e.symm (tab_congr fun j hj => ?_)
    rw [if_neg (by omega)]
  case round =>
    obtain ⟨i, rfl, hi, hk, HB, HX, HG⟩ := hrel
    by_cases hlt : i < n
    · have hlt2 : (i : Int) < (n : Int) := by omega
      obtain ⟨hx1, hx2, hx3⟩ := HX.out
      have HF := hid fun W (hW : Below wr.heap.size wr W) => And.intro ((HB.out.below hW).at_ (q := o * 6 + i * 6) (o + i) (by simp; omega)) (HB.out.below hW).free
      go_wp2_with (go_at_call 119; (with_reducible refine (bare_any _ _).mono ?_); rintro e w' ⟨rfl, hB⟩; obtain ⟨hF, hFr⟩ := HF.out _ hB; have HB1 := hid hB; clear hB)
      go_roundg (gk - 1)
      case measure => omega
      case rel =>
        have hg1 := grown_trans (grown_of_below HB1.out (some b)) (grown_six _ b (o * 6 + i * 6) (.int .i64 32) (.string ⟨#[]⟩) (.int .i64 0) (.int .i64 (-1)) (.int .i64 a.bg) (.int .i64 0))
        have hne : ∀ j, some ((⟨w.heap.size, j, none⟩ : Addr).block) ≠ some b := fun j h => by simp at h; omega
        refine ⟨i + 1, by go_num, by omega, by omega, hid ?_, hid ⟨hg1.cell hx1 (hne _), hg1.cell hx2 (hne _), hg1.cell hx3 (hne _)⟩, hid (grown_trans HG.out hg1)⟩
        refine Eq.mp (congrArg _ ?_) ((HB.out.below HB1.out).set6 (q := o * 6 + i * 6) (o + i) (bare a) (by omega))
        rw [tab_set]
        refine tab_congr fun j hj => ?_
        by_cases h1 : j = o + i
        · rw [if_pos h1, if_pos (by omega)]
        · rw [if_neg h1]
          by_cases h2 : o ≤ j ∧ j < o + i
          · rw [if_pos h2, if_pos (by omega)]
          · rw [if_neg h2, if_neg (by omega)]
    · have hlt2 : ¬ (i : Int) < (n : Int) := by omega
      obtain rfl : i = n := by omega
      go_wp2
      go_end0
      refine ⟨rfl, ?_, HG.out⟩
      refine Eq.mp (congrArg _ (tab_congr fun j hj => ?_)) HB.out
      by_cases h : o ≤ j ∧ j < o + i
      · rw [if_pos h, if_pos h, fillL]; simp only [sub_length]; rw [at_tab (by omega)]
      · rw [if_neg h, if_neg h]
end Go.Proofs.YtpmfjombfcnhmaaGreatDoor
