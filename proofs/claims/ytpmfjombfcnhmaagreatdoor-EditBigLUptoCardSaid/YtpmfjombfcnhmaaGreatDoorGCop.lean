/- Grids and screens copied, owned. -/
import Derived.Test.YtpmfjombfcnhmaaGreatDoorCop
import Derived.Test.YtpmfjombfcnhmaaGreatDoorScrM
set_option linter.unusedVariables false
set_option linter.unusedSimpArgs false
namespace Go.Proofs.YtpmfjombfcnhmaaGreatDoor
open Go Go.RowKit

theorem below_set {w0 w : World} (h : Below w0.heap.size w0 w) {g : Nat} (hg : w0.heap.size ≤ g) (k : Nat) (v : Value) : Below w0.heap.size w0 (w.setCell ⟨g, k, none⟩ v) := h.setCell (p := ⟨g, k, none⟩) hg v

/-- a variable of the call's own, its cells as a list -/
def RowL (w : World) (b : Nat) (t : TypeId) (l : List Value) : Prop := w.rowIs b t l.length fun k => l.getD k undef
theorem RowL.new (w : World) (t : TypeId) (cs : Array Value) : RowL (w.alloc (.cells cs t)) w.heap.size t cs.toList := by
  have h := World.rowIs_alloc w cs t (fun k => cs.toList.getD k undef) (fun i hi => by simp [hi])
  unfold RowL
  rw [Array.length_toList]; exact h
theorem RowL.lt {w : World} {b : Nat} {t : TypeId} {l : List Value} (h : RowL w b t l) : b < w.heap.size := World.rowIs.lt h
theorem RowL.below {w w1 : World} {b : Nat} {t : TypeId} {l : List Value} (h : RowL w b t l) (hb : Below w.heap.size w w1) : RowL w1 b t l := World.rowIs.of_block h (hb.block b h.lt)
theorem RowL.free {w : World} {b : Nat} {t : TypeId} {l : List Value} (h : RowL w b t l) (k : Nat) : w.frozen? ⟨b, k, none⟩ = false := World.rowIs.frozen h k
theorem RowL.cell {w : World} {b : Nat} {t : TypeId} {l : List Value} (h : RowL w b t l) (k : Nat) (v : Value) (hk : l[k]? = some v) : w.cell? ⟨b, k, none⟩ = some v := by
  have hlt : k < l.length := by
    rcases Nat.lt_or_ge k l.length with h | h
    · exact h
    · rw [List.getElem?_eq_none h] at hk; cases hk
  rw [World.rowIs.cell h hlt, List.getD_eq_getElem?_getD, hk]; rfl

theorem own_set {w : World} {base g k n : Nat} {e : TypeId} {size : Nat} {v x : Value} {xs : List Value} (h : w.ownsRow base e size v n xs) (hg : g < base) : (w.setCell ⟨g, k, none⟩ x).ownsRow base e size v n xs :=
  h.kept (grown_set w g k x) (by
    cases hv : v.ownBlock with
    | none => exact .inl rfl
    | some j => exact .inr fun e => by have := (h.lt j hv).1; cases e; omega)

set_option maxHeartbeats 1000000 in
theorem copyG_any (r c : Int) (L : List Cell) (v : Value) (w : World) (hv : RdC w v L) (hl : L.length ≤ 1048576) :
    Calls Tryz.prog 28 #[.agg #[.int .i64 r, .int .i64 c, v]] w fun e w' => ∃ v', e = .returned (.agg #[.int .i64 r, .int .i64 c, v']) ∧ OwnC w' w.heap.size v' L ∧ Below w.heap.size w w' := by
  have HV : Hid (∀ W, Below w.heap.size w W → RdC W v L) := hid fun W hW => hv.below hW
  obtain ⟨A, k, rfl, -, -⟩ := hv.open_
  have HC : Hid (∀ W, Below w.heap.size w W → Calls Tryz.prog 54 #[.slice A L.length k] W _) := hid fun W hW => copyC_any L _ W (HV.out W hW) hl
  clear hv HV
  obtain ⟨w3, hw3⟩ : ∃ w3, w3 = (((w.alloc (.cells #[.int .i64 r, .int .i64 c, .slice A L.length k] 31)).alloc (.cells #[.int .i64 0, .int .i64 0, .slice none 0 0] 31)).alloc (.cells #[.int .i64 r, .int .i64 c, .slice A L.length k] 31)) := ⟨_, rfl⟩
  have hb3 : Below w.heap.size w w3 := by rw [hw3]; exact alloc_below (alloc_below (alloc_below (Below.refl _ _) _) _) _
  have r3 : RowL w3 (w.heap.size + 1 + 1) 31 [.int .i64 r, .int .i64 c, .slice A L.length k] := by rw [hw3]; have := RowL.new ((w.alloc (.cells #[.int .i64 r, .int .i64 c, .slice A L.length k] 31)).alloc (.cells #[.int .i64 0, .int .i64 0, .slice none 0 0] 31)) 31 #[.int .i64 r, .int .i64 c, .slice A L.length k]; simpa using this
  have r2 : RowL w3 (w.heap.size + 1) 31 [.int .i64 0, .int .i64 0, .slice none 0 0] := by
    rw [hw3]; have := (RowL.new (w.alloc (.cells #[.int .i64 r, .int .i64 c, .slice A L.length k] 31)) 31 #[.int .i64 0, .int .i64 0, .slice none 0 0]).below (alloc_below (Below.refl _ _) (.cells #[.int .i64 r, .int .i64 c, .slice A L.length k] 31)); simpa using this
  have H3 := hid hb3
  have R3 := hid r3
  have R2 := hid r2
  have HW3 := hid hw3
  clear hb3 r3 r2 hw3
  go_enter Tryz.func28, Tryz.ntmps28
  go_wp2_with (go_at_call 54; rw [← HW3.out]; (with_reducible refine (HC.out _ H3.out).mono ?_); rintro e w1 ⟨v', rfl, hO, hB⟩; obtain ⟨A', k', rfl⟩ := hO.slice; have HO := hid hO; have HB := hid hB; have c0 := (R3.out.below hB).cell 0 _ rfl; have c1 := (R3.out.below hB).cell 1 _ rfl; have c2 := (R3.out.below hB).cell 2 _ rfl; have e0 := (R2.out.below hB).cell 0 _ rfl; have e1 := (R2.out.below hB).cell 1 _ rfl; have e2 := (R2.out.below hB).cell 2 _ rfl; have f3 := (R3.out.below hB).free; have f2 := (R2.out.below hB).free; clear hO hB)
  have h3 : w.heap.size + 1 + 1 < w3.heap.size := R3.out.lt
  refine bodyPost_ret (v := .agg #[.int .i64 r, .int .i64 c, .slice A' L.length k']) (by simp [results, Tryz.results28, go_sem, e0, e1, e2, f2]) rfl ⟨_, rfl, ?_, ?_⟩
  · exact OwnC.lower (own_set (own_set (own_set (own_set HO.out h3) (by omega)) (by omega)) (by omega)) (by omega)
  · exact below_set (below_set (below_set (below_set (after H3.out HB.out) (by omega) _ _) (by omega) _ _) (by omega) _ _) (by omega) _ _

set_option maxHeartbeats 1000000 in
theorem ownG_any (r c : Int) (L : List Cell) (v : Value) (w : World) (hv : RdC w v L) (hl : L.length ≤ 1048576) :
    Calls Tryz.prog 63 #[.agg #[.int .i64 r, .int .i64 c, v]] w fun e w' => ∃ v', e = .returned (.agg #[.int .i64 r, .int .i64 c, v']) ∧ OwnC w' w.heap.size v' L ∧ Below w.heap.size w w' := by
  have HV : Hid (∀ W, Below w.heap.size w W → RdC W v L) := hid fun W hW => hv.below hW
  obtain ⟨A, k, rfl, -, -⟩ := hv.open_
  have HC : Hid (∀ W, Below w.heap.size w W → Calls Tryz.prog 105 #[.slice A L.length k] W _) := hid fun W hW => cloneC_any L _ W (HV.out W hW) hl
  clear hv HV
  obtain ⟨w3, hw3⟩ : ∃ w3, w3 = ((w.alloc (.cells #[.int .i64 r, .int .i64 c, .slice A L.length k] 31)).alloc (.cells #[.int .i64 0, .int .i64 0, .slice none 0 0] 31)) := ⟨_, rfl⟩
  have hb3 : Below w.heap.size w w3 := by rw [hw3]; exact alloc_below (alloc_below (Below.refl _ _) _) _
  have r3 : RowL w3 (w.heap.size + 1) 31 [.int .i64 0, .int .i64 0, .slice none 0 0] := by rw [hw3]; have := RowL.new (w.alloc (.cells #[.int .i64 r, .int .i64 c, .slice A L.length k] 31)) 31 #[.int .i64 0, .int .i64 0, .slice none 0 0]; simpa using this
  have r2 : RowL w3 w.heap.size 31 [.int .i64 r, .int .i64 c, .slice A L.length k] := by
    rw [hw3]; have := (RowL.new w 31 #[.int .i64 r, .int .i64 c, .slice A L.length k]).below (alloc_below (Below.refl _ _) (.cells #[.int .i64 0, .int .i64 0, .slice none 0 0] 31)); simpa using this
  have H3 := hid hb3
  have R3 := hid r3
  have R2 := hid r2
  have HW3 := hid hw3
  clear hb3 r3 r2 hw3
  go_enter Tryz.func63, Tryz.ntmps63
  go_wp2_with (go_at_call 105; rw [← HW3.out]; (with_reducible refine (HC.out _ H3.out).mono ?_); rintro e w1 ⟨v', rfl, hO, hB⟩; obtain ⟨A', k', rfl⟩ := hO.slice; have HO := hid hO; have HB := hid hB; have c0 := (R2.out.below hB).cell 0 _ rfl; have c1 := (R2.out.below hB).cell 1 _ rfl; have c2 := (R2.out.below hB).cell 2 _ rfl; have e0 := (R3.out.below hB).cell 0 _ rfl; have e1 := (R3.out.below hB).cell 1 _ rfl; have e2 := (R3.out.below hB).cell 2 _ rfl; have f3 := (R3.out.below hB).free; have f2 := (R2.out.below hB).free; clear hO hB)
  have h3 : w.heap.size + 1 < w3.heap.size := R3.out.lt
  refine bodyPost_ret (v := .agg #[.int .i64 r, .int .i64 c, .slice A' L.length k']) (by simp [results, Tryz.results63, go_sem, e0, e1, e2, f3]) rfl ⟨_, rfl, ?_, ?_⟩
  · exact OwnC.lower (own_set (own_set (own_set (own_set HO.out (by omega)) (by omega)) (by omega)) (by omega)) (by omega)
  · exact below_set (below_set (below_set (below_set (after H3.out HB.out) (by omega) _ _) (by omega) _ _) (by omega) _ _) (by omega) _ _

/-- two values' blocks are two -/
def apartV (a b : Value) : Prop := b.ownBlock = none ∨ b.ownBlock ≠ a.ownBlock
theorem apart_of {w1 w2 : World} {b1 b2 n1 n2 s1 s2 : Nat} {e1 e2 : TypeId} {x y : Value} {xs ys : List Value} (h1 : w1.ownsRow b1 e1 s1 x n1 xs) (h2 : w2.ownsRow b2 e2 s2 y n2 ys) (h : w1.heap.size ≤ b2) : apartV x y := by
  unfold apartV
  cases hy : y.ownBlock with
  | none => exact .inl rfl
  | some j =>
    refine .inr fun e => ?_
    have := (h2.lt j hy).1
    have := (h1.lt j e.symm).2
    omega

end Go.Proofs.YtpmfjombfcnhmaaGreatDoor
