/- Small functions on numbers. -/
import Derived.Test.YtpmfjombfcnhmaaGreatDoorB
set_option linter.unusedVariables false
set_option linter.unusedSimpArgs false
namespace Go.Proofs.YtpmfjombfcnhmaaGreatDoor
open Go Go.RowKit

theorem num_is {n m : Int} {x : Bool} (h : decide (0 ≤ n ∧ n ≤ m) = x) (w : World) : Calls Tryz.prog 37 #[.int .i64 n, .int .i64 m] w fun e w' => e = .returned (.bool x) ∧ w = w' := by
  have H := hid h
  clear h
  go_enter Tryz.func37, Tryz.ntmps37
  go_wp2
  all_goals (go_ret; exact ⟨ret_bool (by rw [← H.out, Bool.eq_iff_iff]; simp; try omega), rfl⟩)
theorem between_num_is {n l m : Int} {x : Bool} (h : decide (l ≤ n ∧ n ≤ m) = x) (w : World) : Calls Tryz.prog 40 #[.int .i64 n, .int .i64 l, .int .i64 m] w fun e w' => e = .returned (.bool x) ∧ w = w' := by
  have H := hid h
  clear h
  go_enter Tryz.func40, Tryz.ntmps40
  go_wp2
  all_goals (go_ret; exact ⟨ret_bool (by rw [← H.out, Bool.eq_iff_iff]; simp; try omega), rfl⟩)
def withinZ (i n : Int) : Int := (IntKind.u64.wrap i) % n
theorem within_bd (i : Int) {n : Int} (h : 1 ≤ n) : 0 ≤ withinZ i n ∧ withinZ i n < n := ⟨Int.emod_nonneg _ (by omega), Int.emod_lt_of_pos _ (by omega)⟩
theorem u64_nonneg (i : Int) : 0 ≤ IntKind.u64.wrap i := by
  have h : IntKind.u64.wrap i = i % 18446744073709551616 := by simp [IntKind.wrap, IntKind.signed, IntKind.bits]
  omega
theorem within_eq (i : Int) {n : Int} (h1 : 1 ≤ n) (h2 : n ≤ 1000000) : wrap64 ((IntKind.u64.wrap i).tmod n) = withinZ i n := by
  have h := within_bd i h1
  have e : (IntKind.u64.wrap i).tmod n = withinZ i n := Int.tmod_eq_emod_of_nonneg (u64_nonneg i)
  rw [e]; unfold wrap64; omega
theorem withinN_any (i n : Int) (w : World) (h1 : 1 ≤ n) (h2 : n ≤ 1000000) : Calls Tryz.prog 18 #[.int .i64 i, .int .i64 n] w fun e w' => e = .returned (.int .i64 (withinZ i n)) ∧ w = w' := by
  go_enter Tryz.func18, Tryz.ntmps18
  go_wp2
  go_ret
  exact ⟨ret_int (within_eq i h1 h2), rfl⟩
end Go.Proofs.YtpmfjombfcnhmaaGreatDoor
