/- Structs compared: attributes, cells. -/
import Derived.Test.YtpmfjombfcnhmaaGreatDoorCel
import Derived.Laws.StructEq
set_option linter.unusedVariables false
set_option linter.unusedSimpArgs false
namespace Go.Proofs.YtpmfjombfcnhmaaGreatDoor
open Go Go.RowKit

def attrSame (a b : Attr) : Bool := (a.fg == b.fg && (a.bg == b.bg && a.fl == b.fl))
theorem attrSame_iff {a b : Attr} : attrSame a b = true ↔ a = b := by
  obtain ⟨a1, a2, a3⟩ := a
  obtain ⟨b1, b2, b3⟩ := b
  simp [attrSame]
theorem equalIn_attr (d : Nat) (a b : Attr) (w : World) : (Op.equalIn (d + 2) 33 (.agg #[.int .i64 a.fg, .int .i64 a.bg, .int .i64 a.fl]) (.agg #[.int .i64 b.fg, .int .i64 b.bg, .int .i64 b.fl])).run Tryz.prog w = .ok (attrSame a b) w := by
  rw [run_equalIn_agg w (d + 1) 33 _ _ (by kernel_rfl) (by kernel_rfl)]
  have u3 := Tryz.underlying3
  simp only [Program.fieldsOf, Tryz.underlying33]
  go_simp
  simp only [attrSame]
  by_cases h1 : a.fg = b.fg <;> by_cases h2 : a.bg = b.bg <;> by_cases h3 : a.fl = b.fl <;> simp [h1, h2, h3]
theorem neq_attr (a b : Attr) (w : World) : (binOp .neq 33 (.agg #[.int .i64 a.fg, .int .i64 a.bg, .int .i64 a.fl]) (.agg #[.int .i64 b.fg, .int .i64 b.bg, .int .i64 b.fl])).run Tryz.prog w = .ok (.bool (!(attrSame a b))) w := by
  rw [run_neq_struct, equalIn_attr 9998]; rfl
end Go.Proofs.YtpmfjombfcnhmaaGreatDoor
