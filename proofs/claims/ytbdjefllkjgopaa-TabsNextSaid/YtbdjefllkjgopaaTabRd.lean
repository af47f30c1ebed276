/- What the reading of a slice of bools says. -/
import Derived.Test.YtbdjefllkjgopaaTab
import Derived.Test.YtbdjefllkjgopaaRead
namespace Go.Proofs.Ytbdjefllkjgopaa
open Go Go.RowKit
theorem rd_bools {w : World} {cs : List Value} (h : Sh.rd w (.sl .bool 1 1) cs) : ∃ v l, cs = [v] ∧ RdB w v l ∧ l.length ≤ 140737488351232 := by
  obtain ⟨A, len, cap, rfl, hl, hc, hr⟩ := rd_slice h (by omega)
  have hx : ∀ i, i < len → ∃ x : Bool, ∀ b off, A = some ⟨b, off, none⟩ → w.cell? ⟨b, off + i * 1, none⟩ = some (.bool x) := by
    intro i hi
    obtain ⟨b, off, rfl, hr2⟩ := hr (by omega)
    obtain ⟨c, _, hcell, n, rfl⟩ := hr2 i hi
    refine ⟨n, fun b' off' e => ?_⟩
    cases e
    simpa using hcell 0 (by omega)
  obtain ⟨l, hll, hl2⟩ := choose_list hx
  subst hll
  refine ⟨_, l, rfl, ⟨A, cap, rfl, hl, fun h0 => ?_⟩, by omega⟩
  obtain ⟨b, off, rfl, _⟩ := hr h0
  refine ⟨b, off, rfl, fun i hi j hj => ?_⟩
  obtain rfl : j = 0 := by omega
  rw [Nat.add_zero, hl2 i hi b off rfl]
  simp [hi]
end Go.Proofs.Ytbdjefllkjgopaa
