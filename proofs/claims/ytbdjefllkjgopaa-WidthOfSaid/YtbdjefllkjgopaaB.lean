/- General words of this seat's proofs: facts kept from the walk, worlds that stay below a block, readable ints. -/
import Derived.Test.YtbdjefllkjgopaaRows
import Derived.ProofKit
import Derived.WalkKit
import Derived.Deep.LoopGhost
import Derived.Deep.QuietTactic
import Derived.BigQuiet
import Derived.Below
import Derived.Outline
import Derived.WalkSpells
import Derived.WalkLawsBesides
import Derived.KernelRfl
import Derived.Deep.RegionHeld3
import Derived.Deep.RegionWith
import Derived.Deep.RegionLaw
import Derived.Laws.AppendOwn
import Derived.Laws.MakeOwn
import Derived.Laws.OwnMore
import Derived.Laws.RangeString
import Derived.RowKit3
import Derived.LoopTactic
namespace Go.Proofs.Ytbdjefllkjgopaa
open Go Go.RowKit

theorem hid {p : Prop} (h : p) : Hid p := h
theorem ret_bool {a b : Bool} (h : a = b) : Ending.returned (.bool a) = .returned (.bool b) := by rw [h]
theorem ret_int {k : IntKind} {a b : Int} (h : a = b) : Ending.returned (.int k a) = .returned (.int k b) := by rw [h]
theorem cell_below {w w1 : World} (h : Below w.heap.size w w1) {a : Addr} {v : Value} (hc : w.cell? a = some v) : w1.cell? a = some v := (h.cell (World.block_lt_of_cell? w a hc)).trans hc
theorem after {w w1 w2 : World} (h : Below w.heap.size w w1) (h2 : Below w1.heap.size w1 w2) : Below w.heap.size w w2 := h.trans (h2.mono h.size)
theorem cell_new (w : World) (cs : Array Value) (t : TypeId) (fz : Nat × Nat) (k : Nat) : (w.alloc (.cells cs t fz)).cell? ⟨w.heap.size, k, none⟩ = cs[k]? := by
  have h := heap_alloc_new w (.cells cs t fz)
  simp only [World.cell?, h]; simp
theorem drewN_below {w w1 : World} (h : Below w.heap.size w w1) (n : Nat) : Below w.heap.size w (w1.drewN n) := ⟨h.os, h.tape, h.output, h.size, h.block⟩
theorem alloc_below {w w1 : World} (h : Below w.heap.size w w1) (o : Obj) : Below w.heap.size w (w1.alloc o) := h.alloc h.size o

/-- a slice value of n elements of sz cells each, cell j of element i being g i j -/
def Rows (w : World) (v : Value) (n sz : Nat) (g : Nat → Nat → Value) : Prop :=
  ∃ A c, v = .slice A n c ∧ n ≤ c ∧ (0 < n → ∃ b off, A = some ⟨b, off, none⟩ ∧ ∀ i, i < n → ∀ j, j < sz → w.cell? ⟨b, off + i * sz + j, none⟩ = some (g i j))
theorem Rows.below {w w1 : World} {v : Value} {n sz : Nat} {g : Nat → Nat → Value} (h : Rows w v n sz g) (hb : Below w.heap.size w w1) : Rows w1 v n sz g := by
  obtain ⟨A, c, hv, hc, hr⟩ := h
  refine ⟨A, c, hv, hc, fun h0 => ?_⟩
  obtain ⟨b, off, hA, hr⟩ := hr h0
  exact ⟨b, off, hA, fun i hi j hj => cell_below hb (hr i hi j hj)⟩
/-- a slice of ints -/
def RdI (w : World) (v : Value) (l : List Int) : Prop := Rows w v l.length 1 fun i _ => .int .i64 (l.getD i 0)
theorem RdI.below {w w1 : World} {v : Value} {l : List Int} (h : RdI w v l) (hb : Below w.heap.size w w1) : RdI w1 v l := Rows.below h hb
theorem RdI.nil (w : World) : RdI w (.slice none 0 0) [] := ⟨none, 0, rfl, Nat.le_refl _, fun h => absurd h (by simp)⟩
/-- what the walk wants of it -/
theorem RdI.open_ {w : World} {v : Value} {l : List Int} (h : RdI w v l) : ∃ A c, v = .slice A l.length c ∧ l.length ≤ c ∧ ∀ W, Below w.heap.size w W → ∀ i, i < l.length → ∃ b off, A = some ⟨b, off, none⟩ ∧ W.cell? ⟨b, off + i, none⟩ = some (.int .i64 (l.getD i 0)) := by
  obtain ⟨A, c, hv, hc, hr⟩ := h
  refine ⟨A, c, hv, hc, fun W hW i hi => ?_⟩
  obtain ⟨b, off, hA, hr⟩ := hr (by omega)
  exact ⟨b, off, hA, cell_below hW (by simpa using hr i hi 0 (by omega))⟩
end Go.Proofs.Ytbdjefllkjgopaa
