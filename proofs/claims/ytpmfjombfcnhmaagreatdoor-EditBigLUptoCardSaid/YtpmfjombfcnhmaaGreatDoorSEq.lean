/- Grids and screens compared. -/
import Derived.Test.YtpmfjombfcnhmaaGreatDoorSOwn
set_option linter.unusedVariables false
set_option linter.unusedSimpArgs false
namespace Go.Proofs.YtpmfjombfcnhmaaGreatDoor
open Go Go.RowKit

set_option maxHeartbeats 1000000 in
theorem eqG_is {r c r2 c2 : Int} {L M : List Cell} {x : Bool} (hx : ((r == r2) && (c == c2) && decide (L = M)) = x) (v u : Value) (w : World) (hv : RdC w v L) (hu : RdC w u M) (hl : L.length ≤ 1048576) (hm : M.length ≤ 1048576) :
    Calls Tryz.prog 82 #[.agg #[.int .i64 r, .int .i64 c, v], .agg #[.int .i64 r2, .int .i64 c2, u]] w fun e w' => e = .returned (.bool x) ∧ Below w.heap.size w w' := by
  obtain ⟨b1, hb1⟩ : ∃ b, (r == r2) = b := ⟨_, rfl⟩
  obtain ⟨b2, hb2⟩ : ∃ b, (c == c2) = b := ⟨_, rfl⟩
  obtain ⟨b3, hb3⟩ : ∃ b, decide (L = M) = b := ⟨_, rfl⟩
  rw [hb1, hb2, hb3] at hx
  have HX := hid hx
  have HE : Hid (∀ W, Below w.heap.size w W → Calls Tryz.prog 111 #[v, u] W fun e w' => e = .returned (.bool b3) ∧ Below W.heap.size W w') := hid fun W hW => hb3 ▸ eqC_any L M v u W (hv.below hW) (hu.below hW) hl hm
  obtain ⟨A, k, rfl, -, -⟩ := hv.open_
  obtain ⟨B, k2, rfl, -, -⟩ := hu.open_
  clear hx hb3 hv hu
  cases b1 with
  | false =>
    have hx : x = false := by rw [← HX.out]; rfl
    subst hx
    go_enter Tryz.func82, Tryz.ntmps82
    go_wp2
    go_ret
    exact ⟨rfl, alloc_below (alloc_below (Below.refl _ _) _) _⟩
  | true =>
  cases b2 with
  | false =>
    have hx : x = false := by rw [← HX.out]; rfl
    subst hx
    go_enter Tryz.func82, Tryz.ntmps82
    go_wp2
    go_ret
    exact ⟨rfl, alloc_below (alloc_below (Below.refl _ _) _) _⟩
  | true =>
    have hx : x = b3 := by rw [← HX.out]; rfl
    subst hx
    go_enter Tryz.func82, Tryz.ntmps82
    go_wp2_with (go_at_call 111; (with_reducible refine (HE.out _ (alloc_below (alloc_below (Below.refl _ _) _) _)).mono ?_); rintro e w1 ⟨rfl, hB⟩; have HB := hid (after (alloc_below (alloc_below (Below.refl _ _) _) _) hB); clear hB)
    go_ret
    exact ⟨rfl, HB.out⟩

def curSame (a b : Cur) : Bool := (a.row == b.row && (a.col == b.col && (a.wrap == b.wrap && (attrSame a.a b.a && (a.g0 == b.g0 && (a.g1 == b.g1 && (a.sh == b.sh && a.org == b.org)))))))
theorem curSame_iff {a b : Cur} : curSame a b = true ↔ a = b := by
  obtain ⟨a1, a2, a3, a4, a5, a6, a7, a8⟩ := a
  obtain ⟨b1, b2, b3, b4, b5, b6, b7, b8⟩ := b
  simp only [curSame, Bool.and_eq_true, beq_iff_eq, attrSame_iff, Cur.mk.injEq]
set_option maxHeartbeats 1000000 in
theorem equalIn_cur (d : Nat) (a b : Cur) (w : World) : (Op.equalIn (d + 3) 35 (.agg #[.int .i64 a.row, .int .i64 a.col, .bool a.wrap, .int .i64 a.a.fg, .int .i64 a.a.bg, .int .i64 a.a.fl, .int .i64 a.g0, .int .i64 a.g1, .int .i64 a.sh, .bool a.org]) (.agg #[.int .i64 b.row, .int .i64 b.col, .bool b.wrap, .int .i64 b.a.fg, .int .i64 b.a.bg, .int .i64 b.a.fl, .int .i64 b.g0, .int .i64 b.g1, .int .i64 b.sh, .bool b.org])).run Tryz.prog w = .ok (curSame a b) w := by
  rw [run_equalIn_agg w (d + 2) 35 _ _ (by kernel_rfl) (by kernel_rfl)]
  have u3 := Tryz.underlying3
  have u4 := Tryz.underlying4
  have hA := equalIn_attr d a.a b.a
  simp only [Program.fieldsOf, Tryz.underlying35]
  go_simp
  simp only [curSame]
  by_cases h1 : a.row = b.row <;> by_cases h2 : a.col = b.col <;> by_cases h3 : a.wrap = b.wrap <;> cases h4 : attrSame a.a b.a <;> by_cases h5 : a.g0 = b.g0 <;> by_cases h6 : a.g1 = b.g1 <;> by_cases h7 : a.sh = b.sh <;> by_cases h8 : a.org = b.org <;> simp [h1, h2, h3, h5, h6, h7, h8]
theorem eql_cur (a b : Cur) (w : World) : (binOp .eql 35 (.agg #[.int .i64 a.row, .int .i64 a.col, .bool a.wrap, .int .i64 a.a.fg, .int .i64 a.a.bg, .int .i64 a.a.fl, .int .i64 a.g0, .int .i64 a.g1, .int .i64 a.sh, .bool a.org]) (.agg #[.int .i64 b.row, .int .i64 b.col, .bool b.wrap, .int .i64 b.a.fg, .int .i64 b.a.bg, .int .i64 b.a.fl, .int .i64 b.g0, .int .i64 b.g1, .int .i64 b.sh, .bool b.org])).run Tryz.prog w = .ok (.bool (curSame a b)) w := by
  rw [run_eql_struct, equalIn_cur 9997]; rfl
theorem neq_cur (a b : Cur) (w : World) : (binOp .neq 35 (.agg #[.int .i64 a.row, .int .i64 a.col, .bool a.wrap, .int .i64 a.a.fg, .int .i64 a.a.bg, .int .i64 a.a.fl, .int .i64 a.g0, .int .i64 a.g1, .int .i64 a.sh, .bool a.org]) (.agg #[.int .i64 b.row, .int .i64 b.col, .bool b.wrap, .int .i64 b.a.fg, .int .i64 b.a.bg, .int .i64 b.a.fl, .int .i64 b.g0, .int .i64 b.g1, .int .i64 b.sh, .bool b.org])).run Tryz.prog w = .ok (.bool (!(curSame a b))) w := by
  rw [run_neq_struct, equalIn_cur 9997]; rfl
theorem wpList_boxS {ops : Array Oper} {rest : List Oper} {op : Oper} {a : Act} {w : World} {Q : Exit → Act → World → Prop} (hgd : op.guard = none) (x : Operand) (ho : op.op = .box 38 x) (cs : Array Value) (hx : a.eval x = .agg cs)
    (h : wpList Tryz.prog ops Q rest (a.put op.dst (.pointer (some ⟨w.heap.size, 0, none⟩))) (w.alloc (.cells cs 38))) : wpList Tryz.prog ops Q (op :: rest) a w :=
  wpList_plain hgd fun K hK => by
    unfold Oper.wp execOp
    rw [ho]
    simp only [hx]
    simp [go_sem]
    exact hK _ _ h
end Go.Proofs.YtpmfjombfcnhmaaGreatDoor
