/- How many cells a rune has: the program's Of and the reference's Width come to one function. -/
import Derived.Test.YtpmfjombfcnhmaaGreatDoorB
set_option linter.unusedVariables false
set_option linter.unusedSimpArgs false
namespace Go.Proofs.YtpmfjombfcnhmaaGreatDoor
open Go Go.RowKit

def inSpan (r : Int) (p : Int × Int) : Bool := decide (p.1 ≤ r ∧ r ≤ p.2)
def marksL : List (Int × Int) := [(768, 879), (6832, 6911), (8203, 8207), (8400, 8447), (65024, 65039), (65056, 65071)]
def widesL : List (Int × Int) := [(4352, 4447), (11904, 12350), (12353, 42191), (44032, 55203), (63744, 64255), (65072, 65135), (65280, 65376), (65504, 65510), (127744, 128591), (129280, 129535), (131072, 262141)]
def isMark (r : Int) : Bool := marksL.any (inSpan r)
def isWide (r : Int) : Bool := widesL.any (inSpan r)
def badRune (r : Int) : Bool := decide (r < 32 ∨ (127 ≤ r ∧ r ≤ 159) ∨ 1114111 < r ∨ (55296 ≤ r ∧ r ≤ 57343))
def widthOf (r : Int) : Int := if badRune r = true then -1 else if isMark r = true then 0 else if isWide r = true then 2 else 1
theorem widthOf_bad {r : Int} (h : badRune r = true) : widthOf r = -1 := by unfold widthOf; rw [if_pos h]
theorem widthOf_small {r : Int} (h : badRune r = false) (h1 : r < 768) : widthOf r = 1 := by
  unfold widthOf; rw [if_neg (by simp [h]), if_neg (by simp [isMark, marksL, inSpan]; omega), if_neg (by simp [isWide, widesL, inSpan]; omega)]
theorem widthOf_mark {r : Int} (h : badRune r = false) (h1 : isMark r = true) : widthOf r = 0 := by unfold widthOf; rw [if_neg (by simp [h]), if_pos h1]
theorem widthOf_wide {r : Int} (h : badRune r = false) (h1 : isMark r = false) (h2 : isWide r = true) : widthOf r = 2 := by unfold widthOf; rw [if_neg (by simp [h]), if_neg (by simp [h1]), if_pos h2]
theorem widthOf_one {r : Int} (h : badRune r = false) (h1 : isMark r = false) (h2 : isWide r = false) : widthOf r = 1 := by unfold widthOf; rw [if_neg (by simp [h]), if_neg (by simp [h1]), if_neg (by simp [h2])]
theorem widthOf_range (r : Int) : -1 ≤ widthOf r ∧ widthOf r ≤ 2 := by unfold widthOf; repeat' split
                                                                       all_goals omega

def validRune (r : Int) : Bool := decide (0 ≤ r ∧ r < 55296) || decide (57343 < r ∧ r ≤ 1114111)
theorem valid_any (r : Int) (w : World) : Calls Tryz.prog 100 #[.int .i32 r] w fun e w' => e = .returned (.bool (validRune r)) ∧ w = w' := by
  go_enter Tryz.func100, Tryz.ntmps100
  go_wp2
  all_goals (go_ret; exact ⟨ret_bool (by unfold validRune; simp; omega), rfl⟩)
theorem valid_yes {r : Int} (h : validRune r = true) (w : World) : Calls Tryz.prog 100 #[.int .i32 r] w fun e w' => e = .returned (.bool true) ∧ w = w' :=
  (valid_any r w).mono fun _ _ ⟨he, hw⟩ => ⟨by rw [he, h], hw⟩
theorem valid_no {r : Int} (h : validRune r = false) (w : World) : Calls Tryz.prog 100 #[.int .i32 r] w fun e w' => e = .returned (.bool false) ∧ w = w' :=
  (valid_any r w).mono fun _ _ ⟨he, hw⟩ => ⟨by rw [he, h], hw⟩

/-- spans as a slice of two cells each -/
def RdS (w : World) (b off : Nat) (l : List (Int × Int)) : Prop :=
  ∀ i (h : i < l.length), w.cell? ⟨b, off + i * 2, none⟩ = some (.int .i64 l[i].1) ∧ w.cell? ⟨b, off + i * 2 + 1, none⟩ = some (.int .i64 l[i].2)
theorem RdS.below {w w1 : World} {b off : Nat} {l : List (Int × Int)} (h : RdS w b off l) (hb : Below w.heap.size w w1) : RdS w1 b off l :=
  fun i hi => ⟨cell_below hb (h i hi).1, cell_below hb (h i hi).2⟩
theorem any_take_succ {α : Type} (f : α → Bool) (l : List α) (i : Nat) (h : i < l.length) : (l.take (i+1)).any f = ((l.take i).any f || f l[i]) := by
  rw [List.take_succ_eq_append_getElem h, List.any_append]; simp only [List.any_cons, List.any_nil, Bool.or_false]
theorem any_of_at {α : Type} (f : α → Bool) (l : List α) (i : Nat) (h : i < l.length) (hf : f l[i] = true) : l.any f = true := by
  rw [List.any_eq_true]; exact ⟨l[i], List.getElem_mem h, hf⟩

set_option maxHeartbeats 400000 in
theorem within_any (r : Int) (l : List (Int × Int)) (b off c : Nat) (w : World) (hl : l.length ≤ 100) (hr : RdS w b off l) :
    Calls Tryz.prog 101 #[.int .i64 r, .slice (some ⟨b, off, none⟩) l.length c] w fun e w' => e = .returned (.bool (l.any (inSpan r))) ∧ Below w.heap.size w w' := by
  go_enter Tryz.func101, Tryz.ntmps101
  go_wp2
  go_loopg [9] l.length (fun k v w' => ∃ i : Nat, v = .int .i64 i ∧ i ≤ l.length ∧ k + i = l.length ∧ Hid ((l.take i).any (inSpan r) = false) ∧ Below w.heap.size w w')
  case atStart => exact ⟨0, rfl, Nat.zero_le _, by omega, hid (by simp), Below.refl _ _⟩
  case round =>
    obtain ⟨i, rfl, hi, hk, HN, hb⟩ := hrel
    have Hb := hid hb
    clear hb
    by_cases hlt : i < l.length
    · have hc := (hr.below Hb.out) i hlt
      go_wp2
      · go_ret
        exact ⟨ret_bool (any_of_at _ l i hlt (by simp [inSpan]; omega)).symm, alloc_below Hb.out _⟩
      all_goals
        go_roundg (gk - 1)
        case measure => omega
        case rel => exact ⟨i + 1, by go_num, by omega, by omega, hid (by rw [any_take_succ _ _ _ hlt, HN.out]; simp [inSpan]; omega), alloc_below Hb.out _⟩
    · go_wp2
      go_ret
      exact ⟨ret_bool (by have := HN.out; rw [List.take_of_length_le (by omega)] at this; exact this.symm), Hb.out⟩

theorem RdS_new (w : World) (t : TypeId) (l : List (Int × Int)) (cs : Array Value) (h : cs.toList = l.flatMap fun p => [.int .i64 p.1, .int .i64 p.2]) : RdS (w.alloc (.cells cs t)) w.heap.size 0 l := by
  have key : ∀ (l : List (Int × Int)) i (hi : i < l.length), (l.flatMap fun p => [Value.int .i64 p.1, .int .i64 p.2])[i * 2]? = some (.int .i64 l[i].1) ∧ (l.flatMap fun p => [Value.int .i64 p.1, .int .i64 p.2])[i * 2 + 1]? = some (.int .i64 l[i].2) := by
    intro l
    induction l with
    | nil => intro i hi; simp at hi
    | cons p l ih =>
      intro i hi
      cases i with
      | zero => exact ⟨rfl, rfl⟩
      | succ i =>
        have := ih i (by simpa using hi)
        rw [show (i + 1) * 2 = i * 2 + 2 by omega, show i * 2 + 2 + 1 = i * 2 + 1 + 2 by omega]
        simpa using this
  intro i hi
  have k := key l i hi
  rw [← h] at k
  refine ⟨?_, ?_⟩
  · rw [Nat.zero_add, cell_new]; simpa using k.1
  · rw [Nat.zero_add, cell_new]; simpa using k.2

theorem within_is {r : Int} {l : List (Int × Int)} {x : Bool} (hx : l.any (inSpan r) = x) (b off c : Nat) (w : World) (hl : l.length ≤ 100) (hr : RdS w b off l) :
    Calls Tryz.prog 101 #[.int .i64 r, .slice (some ⟨b, off, none⟩) l.length c] w fun e w' => e = .returned (.bool x) ∧ Below w.heap.size w w' :=
  (within_any r l b off c w hl hr).mono fun _ _ ⟨he, hw⟩ => ⟨by rw [he, hx], hw⟩
theorem marks_any (w : World) : Calls Tryz.prog 102 #[] w fun e w' => ∃ b c, e = .returned (.slice (some ⟨b, 0, none⟩) marksL.length c) ∧ RdS w' b 0 marksL ∧ Below w.heap.size w w' := by
  go_enter Tryz.func102, Tryz.ntmps102
  go_wp2
  go_ret
  exact ⟨_, _, rfl, RdS_new _ _ _ _ rfl, alloc_below (Below.refl _ _) _⟩
theorem wides_any (w : World) : Calls Tryz.prog 103 #[] w fun e w' => ∃ b c, e = .returned (.slice (some ⟨b, 0, none⟩) widesL.length c) ∧ RdS w' b 0 widesL ∧ Below w.heap.size w w' := by
  go_enter Tryz.func103, Tryz.ntmps103
  go_wp2
  go_ret
  exact ⟨_, _, rfl, RdS_new _ _ _ _ rfl, alloc_below (Below.refl _ _) _⟩

theorem bad_of_not {r : Int} (h : validRune r = false) : badRune r = true := by simp [badRune, validRune] at *; omega
theorem good_of {r : Int} (h : validRune r = true) (h0 : 32 ≤ r) (h1 : r < 127 ∨ 159 < r) : badRune r = false := by simp [badRune, validRune] at *; omega
theorem bad_of {r : Int} (h : r < 32 ∨ (127 ≤ r ∧ r ≤ 159) ∨ 1114111 < r ∨ (55296 ≤ r ∧ r ≤ 57343)) : badRune r = true := by simp [badRune]; omega
theorem isMark_of {r : Int} {b : Bool} (h : marksL.any (inSpan r) = b) : isMark r = b := h
theorem isWide_of {r : Int} {b : Bool} (h : widesL.any (inSpan r) = b) : isWide r = b := h

theorem valid_of {r : Int} (h : badRune r = false) : validRune r = true := by simp [badRune, validRune] at *; omega
theorem range_of {r : Int} (h : badRune r = false) : 32 ≤ r ∧ (r < 127 ∨ 159 < r) ∧ r ≤ 1114111 := by simp [badRune] at *; omega
theorem no_of {r : Int} (h : badRune r = true) (h0 : 32 ≤ r) (h1 : r < 127 ∨ 159 < r) : validRune r = false := by simp [badRune, validRune] at *; omega
theorem of_bad (r : Int) (w : World) (h : badRune r = true) : Calls Tryz.prog 61 #[.int .i64 r] w fun e w' => e = .returned (.int .i64 (widthOf r)) ∧ Below w.heap.size w w' := by
  rw [widthOf_bad h]
  have H := hid h
  clear h
  go_enter Tryz.func61, Tryz.ntmps61
  go_wp2_with (go_at_call 100; (with_reducible refine (valid_no (no_of H.out (by omega) (by omega)) _).mono ?_); rintro e w' ⟨rfl, rfl⟩)
  all_goals (go_ret; exact ⟨rfl, Below.refl _ _⟩)
theorem of_good (r : Int) (w : World) (h : badRune r = false) : Calls Tryz.prog 61 #[.int .i64 r] w fun e w' => e = .returned (.int .i64 (widthOf r)) ∧ Below w.heap.size w w' := by
  obtain ⟨h0, h1, h2⟩ := range_of h
  have HV := hid (valid_of h)
  have H := hid h
  clear h
  by_cases h3 : r < 768
  · rw [widthOf_small H.out h3]
    go_enter Tryz.func61, Tryz.ntmps61
    go_wp2_with (go_at_call 100; (with_reducible refine (valid_yes HV.out _).mono ?_); rintro e w' ⟨rfl, rfl⟩)
    all_goals (go_ret; exact ⟨rfl, Below.refl _ _⟩)
  obtain ⟨m, hm⟩ : ∃ m, marksL.any (inSpan r) = m := ⟨_, rfl⟩
  obtain ⟨m2, hm2⟩ : ∃ m, widesL.any (inSpan r) = m := ⟨_, rfl⟩
  have HM := hid hm
  have HW := hid hm2
  clear hm hm2
  obtain ⟨x, hx⟩ : ∃ x, widthOf r = x := ⟨_, rfl⟩
  have HX := hid hx
  rw [hx]; clear hx
  go_enter Tryz.func61, Tryz.ntmps61
  go_wp2_with (first | (go_at_call 100; (with_reducible refine (valid_yes HV.out _).mono ?_); rintro e w' ⟨rfl, rfl⟩) | (go_at_call 102; refine (marks_any _).mono ?_; rintro e w' ⟨b, c, rfl, hS, hB⟩; have HS := hid hS; have HB := hid hB; clear hS hB) | (go_at_call 103; refine (wides_any _).mono ?_; rintro e w' ⟨b, c, rfl, hS, hB⟩; have HS2 := hid hS; have HB3 := hid hB; clear hS hB) | (go_at_call 101; (with_reducible refine (within_is HM.out _ _ _ _ (by decide) HS.out).mono ?_); rintro e w' ⟨rfl, hB⟩; have HB2 := hid (after HB.out hB); clear hB) | (go_at_call 101; (with_reducible refine (within_is HW.out _ _ _ _ (by decide) HS2.out).mono ?_); rintro e w' ⟨rfl, hB⟩; have HB4 := hid (after HB2.out (after HB3.out hB)); clear hB))
  · go_ret; exact ⟨ret_int (by rw [← HX.out]; exact (widthOf_mark H.out (HM.out.trans ‹m = true›)).symm), HB2.out⟩
  · go_ret; exact ⟨ret_int (by rw [← HX.out]; exact (widthOf_wide H.out (HM.out.trans ‹m = false›) (HW.out.trans ‹m2 = true›)).symm), HB4.out⟩
  · go_ret; exact ⟨ret_int (by rw [← HX.out]; exact (widthOf_one H.out (HM.out.trans ‹m = false›) (HW.out.trans ‹m2 = false›)).symm), HB4.out⟩
theorem of_any (r : Int) (w : World) : Calls Tryz.prog 61 #[.int .i64 r] w fun e w' => e = .returned (.int .i64 (widthOf r)) ∧ Below w.heap.size w w' := by
  cases h : badRune r with
  | true => exact of_bad r w h
  | false => exact of_good r w h
theorem of_is {r x : Int} (h : widthOf r = x) (w : World) : Calls Tryz.prog 61 #[.int .i64 r] w fun e w' => e = .returned (.int .i64 x) ∧ Below w.heap.size w w' := h ▸ of_any r w

set_option maxHeartbeats 400000 in
theorem between_is {r : Int} {l : List (Int × Int)} {x : Bool} (hx : l.any (inSpan r) = x) (b off n c : Nat) (w : World) (hn : n = l.length * 2) (hl : l.length ≤ 100) (hr : RdS w b off l) :
    Calls Tryz.prog 76 #[.int .i64 r, .slice (some ⟨b, off, none⟩) n c] w fun e w' => e = .returned (.bool x) ∧ Below w.heap.size w w' := by
  have HX := hid hx
  have HN := hid hn
  have hn2 : n ≤ 200 := by omega
  clear hx hn
  go_enter Tryz.func76, Tryz.ntmps76
  go_wp2
  go_loopg [5] l.length (fun k v w' => ∃ i : Nat, v = .int .i64 ((i * 2 : Nat) : Int) ∧ i ≤ l.length ∧ k + i = l.length ∧ Hid ((l.take i).any (inSpan r) = false) ∧ Below w.heap.size w w')
  case atStart => exact ⟨0, rfl, Nat.zero_le _, by omega, hid (by simp), Below.refl _ _⟩
  case round =>
    obtain ⟨i, rfl, hi, hk, HL, hb⟩ := hrel
    have Hb := hid hb
    clear hb
    by_cases hlt : i < l.length
    · have hc := (hr.below Hb.out) i hlt
      have h1 : i * 2 + 1 < n := by have := HN.out; omega
      rw [Nat.add_assoc] at hc
      go_wp2
      · go_ret
        exact ⟨ret_bool (by rw [← HX.out]; exact (any_of_at _ l i hlt (by simp [inSpan]; omega)).symm), Hb.out⟩
      all_goals
        go_roundg (gk - 1)
        case measure => omega
        case rel => exact ⟨i + 1, by go_num, by omega, by omega, hid (by rw [any_take_succ _ _ _ hlt, HL.out]; simp [inSpan]; omega), Hb.out⟩
    · have h1 : n ≤ i * 2 + 1 := by have := HN.out; omega
      go_wp2
      go_ret
      exact ⟨ret_bool (by rw [← HX.out]; have := HL.out; rw [List.take_of_length_le (by omega)] at this; exact this.symm), Hb.out⟩

def badL : List (Int × Int) := [(127, 159), (55296, 57343)]
theorem bad_new (w : World) (t : TypeId) : RdS (w.alloc (.cells #[.int .i64 127, .int .i64 159, .int .i64 55296, .int .i64 57343] t)) w.heap.size 0 badL := RdS_new _ _ _ _ rfl
theorem bad_len : 4 = badL.length * 2 := rfl
theorem bad_le : badL.length ≤ 100 := by decide
theorem marks_new (w : World) (t : TypeId) : RdS (w.alloc (.cells #[.int .i64 768, .int .i64 879, .int .i64 6832, .int .i64 6911, .int .i64 8203, .int .i64 8207, .int .i64 8400, .int .i64 8447, .int .i64 65024, .int .i64 65039, .int .i64 65056, .int .i64 65071] t)) w.heap.size 0 marksL := RdS_new _ _ _ _ rfl
theorem marks_len : 12 = marksL.length * 2 := rfl
theorem marks_le : marksL.length ≤ 100 := by decide
theorem wides_new (w : World) (t : TypeId) : RdS (w.alloc (.cells #[.int .i64 4352, .int .i64 4447, .int .i64 11904, .int .i64 12350, .int .i64 12353, .int .i64 42191, .int .i64 44032, .int .i64 55203, .int .i64 63744, .int .i64 64255, .int .i64 65072, .int .i64 65135, .int .i64 65280, .int .i64 65376, .int .i64 65504, .int .i64 65510, .int .i64 127744, .int .i64 128591, .int .i64 129280, .int .i64 129535, .int .i64 131072, .int .i64 262141] t)) w.heap.size 0 widesL := RdS_new _ _ _ _ rfl
theorem wides_len : 22 = widesL.length * 2 := rfl
theorem wides_le : widesL.length ≤ 100 := by decide
theorem bad_split (r : Int) : badRune r = (decide (r < 32) || decide (1114111 < r) || badL.any (inSpan r)) := by
  rw [Bool.eq_iff_iff]; simp [badRune, badL, inSpan]; omega

set_option maxHeartbeats 400000 in
theorem width_any (r : Int) (w : World) : Calls Tryz.prog 36 #[.int .i64 r] w fun e w' => e = .returned (.int .i64 (widthOf r)) ∧ Below w.heap.size w w' := by
  obtain ⟨m0, hm0⟩ : ∃ m, badL.any (inSpan r) = m := ⟨_, rfl⟩
  obtain ⟨m, hm⟩ : ∃ m, marksL.any (inSpan r) = m := ⟨_, rfl⟩
  obtain ⟨m2, hm2⟩ : ∃ m, widesL.any (inSpan r) = m := ⟨_, rfl⟩
  have H0 := hid hm0
  have HM := hid hm
  have HW := hid hm2
  clear hm0 hm hm2
  obtain ⟨x, hx⟩ : ∃ x, widthOf r = x := ⟨_, rfl⟩
  have HX := hid hx
  rw [hx]; clear hx
  go_enter Tryz.func36, Tryz.ntmps36
  go_wp2_with (first | (go_at_call 76; (with_reducible refine (between_is H0.out _ _ 4 _ _ bad_len bad_le (bad_new _ _)).mono ?_); rintro e w' ⟨rfl, hB⟩; have B0 := hid (after (alloc_below (Below.refl _ _) _) hB); clear hB) | (go_at_call 76; (with_reducible refine (between_is HM.out _ _ 12 _ _ marks_len marks_le (marks_new _ _)).mono ?_); rintro e w' ⟨rfl, hB⟩; have B1 := hid (after (alloc_below B0.out _) hB); clear hB) | (go_at_call 76; (with_reducible refine (between_is HW.out _ _ 22 _ _ wides_len wides_le (wides_new _ _)).mono ?_); rintro e w' ⟨rfl, hB⟩; have B2 := hid (after (alloc_below B1.out _) hB); clear hB))
  all_goals go_ret
  · have h := ‹(r < 32 ∨ 1114111 < r) ∨ m0 = true›
    exact ⟨ret_int (by rw [← HX.out]; exact (widthOf_bad (by rw [bad_split, H0.out]; simpa using h)).symm), B0.out⟩
  · have h := ‹(32 ≤ r ∧ r ≤ 1114111) ∧ m0 = false›
    exact ⟨ret_int (by rw [← HX.out]; exact (widthOf_mark (by rw [bad_split, H0.out]; simpa using h) (HM.out.trans ‹m = true›)).symm), B1.out⟩
  · have h := ‹(32 ≤ r ∧ r ≤ 1114111) ∧ m0 = false›
    exact ⟨ret_int (by rw [← HX.out]; exact (widthOf_wide (by rw [bad_split, H0.out]; simpa using h) (HM.out.trans ‹m = false›) (HW.out.trans ‹m2 = true›)).symm), B2.out⟩
  · have h := ‹(32 ≤ r ∧ r ≤ 1114111) ∧ m0 = false›
    exact ⟨ret_int (by rw [← HX.out]; exact (widthOf_one (by rw [bad_split, H0.out]; simpa using h) (HM.out.trans ‹m = false›) (HW.out.trans ‹m2 = false›)).symm), B2.out⟩
  all_goals exact ⟨ret_int (by rw [← HX.out]; exact (widthOf_bad (bad_of (by omega))).symm), Below.refl _ _⟩
theorem width_is {r x : Int} (h : widthOf r = x) (w : World) : Calls Tryz.prog 36 #[.int .i64 r] w fun e w' => e = .returned (.int .i64 x) ∧ Below w.heap.size w w' := h ▸ width_any r w
end Go.Proofs.YtpmfjombfcnhmaaGreatDoor
