/- What the bound on an argument's bulk gives: lengths and texts of what is read. -/
import Derived.Test.YtbjckahaalbpaaaDoorRead
import Derived.Test.YtbjckahaalbpaaaDoorRows
set_option linter.unusedVariables false
set_option linter.unusedSimpArgs false
namespace Go.Proofs.YtbjckahaalbpaaaDoor.bulks
theorem one_le {H : Type} (d : DataW H) : 1 ≤ Rows.uptoBulk d := by
  cases d with
  | lit l => cases l <;> simp [Rows.uptoBulk]
  | nil => simp [Rows.uptoBulk]
  | ptr d => simp [Rows.uptoBulk]
  | slice elems spare => simp [Rows.uptoBulk]
  | agg parts => simp [Rows.uptoBulk]
  | iface t d => simp [Rows.uptoBulk]
  | map entries => simp [Rows.uptoBulk]
  | held h => simp [Rows.uptoBulk]
theorem part_le {H : Type} {d : DataW H} {l : List (DataW H)} (h : d ∈ l) : Rows.uptoBulk d ≤ Rows.uptoBulkAll l := by
  induction l with
  | nil => cases h
  | cons x r ih =>
    simp only [Rows.uptoBulkAll]
    cases List.mem_cons.1 h with
    | inl e => subst e; omega
    | inr e => have := ih e; omega
theorem length_le {H : Type} (l : List (DataW H)) : l.length ≤ Rows.uptoBulkAll l := by
  induction l with
  | nil => simp [Rows.uptoBulkAll]
  | cons x r ih => have := one_le x; simp only [Rows.uptoBulkAll, List.length_cons]; omega
theorem slice_le {H : Type} (elems spare : List (DataW H)) : elems.length + spare.length + 1 ≤ Rows.uptoBulk (.slice elems spare) := by
  have h1 := length_le elems
  have h2 := length_le spare
  simp only [Rows.uptoBulk]
  omega
theorem slice_elems {H : Type} (elems spare : List (DataW H)) : Rows.uptoBulkAll elems + 1 ≤ Rows.uptoBulk (.slice elems spare) := by
  simp only [Rows.uptoBulk]
  omega
end Go.Proofs.YtbjckahaalbpaaaDoor.bulks
namespace Go.Proofs.YtbjckahaalbpaaaDoor
open Go Go.RowKit
/-- what the cells hold -/
def Sh.rdB (w : World) (B : Nat) : Sh → List Value → Prop
  | .int k, cs => ∃ n, cs = [.int k n] ∧ (Lit.int k n).wf = true
  | .bool, cs => ∃ b, cs = [.bool b]
  | .str, cs => ∃ s, cs = [.string s] ∧ s.size ≤ B
  | .sl e sz bytes, cs => ∃ A len cap, cs = [.slice A len cap] ∧ len ≤ cap ∧ len ≤ B ∧
      (0 < len → ∃ a, A = some a ∧ ∀ i, i < len → ∃ c, c.length = sz ∧ (∀ j, j < sz → w.cell? ((a.add (i * sz)).add j) = c[j]?) ∧ Sh.rdB w B e c)
  | .st s, cs => Sh.rdB w B s cs
  | .nil, cs => cs = []
  | .cons a r, cs => ∃ c1 c2, cs = c1 ++ c2 ∧ Sh.rdB w B a c1 ∧ Sh.rdB w B r c2
section
variable {H : Type} {enc : TypeId × Value → H} {P : Program} {w : World}
theorem Sh.rdB_of {B : Nat} (s : Sh) : (∀ t fuel (cs : List Value) x, s.fits P (.inl t) = true → DataW.trod enc P w 0 (fun _ => true) true fuel t cs = some x → Rows.uptoBulk x.1 ≤ B → s.rdB w B cs) ∧
    (∀ fs off fuel (cs : List Value) xs, s.fits P (.inr (fs, off)) = true → Each enc P w fuel cs fs xs → cs.length = off + s.size →
      Rows.uptoBulkAll (xs.map (·.1)) ≤ B → s.rdB w B (cs.drop off)) := by
  induction s with
  | int k =>
    refine ⟨fun t fuel cs x hf h _ => ?_, fun fs off fuel cs xs hf => by simp [Sh.fits] at hf⟩
    obtain ⟨n, rfl, _, hw⟩ := DataW.trod_int (und_int hf) h
    exact ⟨n, rfl, hw⟩
  | bool =>
    refine ⟨fun t fuel cs x hf h _ => ?_, fun fs off fuel cs xs hf => by simp [Sh.fits] at hf⟩
    obtain ⟨n, rfl, _⟩ := DataW.trod_bool (und_bool hf) h
    exact ⟨n, rfl⟩
  | str =>
    refine ⟨fun t fuel cs x hf h hz => ?_, fun fs off fuel cs xs hf => by simp [Sh.fits] at hf⟩
    obtain ⟨s, rfl, rfl, _⟩ := DataW.trod_string (und_str hf) h
    refine ⟨s, rfl, ?_⟩
    simp only [Rows.uptoBulk, Array.length_toList] at hz
    show s.data.size ≤ B
    omega
  | sl e sz bytes ih =>
    refine ⟨fun t fuel cs x hf h hz => ?_, fun fs off fuel cs xs hf => by simp [Sh.fits] at hf⟩
    obtain ⟨e', hu, hfe, rfl, rfl⟩ := und_sl hf
    rcases Deep.open_slice hu h with ⟨rfl, _⟩ | ⟨a, len, cap, m, n, D, Pl, rfl, _, hl, _, hm, rfl, hx⟩
    · exact ⟨none, 0, 0, rfl, Nat.le_refl _, by omega, fun h0 => absurd h0 (by omega)⟩
    · simp only [if_true] at hm
      subst hm
      change Rows.uptoBulk (.slice ((List.range len).map D) ((List.range (m - len)).map fun j => D (len + j))) ≤ B at hz
      have h1 := bulks.slice_le ((List.range len).map D) ((List.range (m - len)).map fun j => D (len + j))
      have h2 := bulks.slice_elems ((List.range len).map D) ((List.range (m - len)).map fun j => D (len + j))
      simp only [List.length_map, List.length_range] at h1
      refine ⟨some a, len, m, rfl, hl, by omega, fun _ => ⟨a, rfl, fun i hi => ?_⟩⟩
      obtain ⟨c, hc1, hc2⟩ := hx i (by omega)
      obtain ⟨_, hlen, hcell⟩ := World.cells?_some hc1
      refine ⟨c, hlen, hcell, ih.1 e' n c (D i, Pl i) hfe hc2 ?_⟩
      have h3 := bulks.part_le (d := D i) (l := (List.range len).map D) (List.mem_map.2 ⟨i, by simpa using hi, rfl⟩)
      show Rows.uptoBulk (D i) ≤ B
      omega
  | st s ih =>
    refine ⟨fun t fuel cs x hf h hz => ?_, fun fs off fuel cs xs hf => by simp [Sh.fits] at hf⟩
    obtain ⟨fs, hu, hfs, hc⟩ := und_st hf
    obtain ⟨xs, n, rfl, rfl, hlen, hxl, hx⟩ := DataW.trod_struct hu h
    have := ih.2 fs.toList 0 n cs xs hfs ⟨by simpa using hxl, fun i f hi => hx i f (by simpa using hi)⟩ (by omega) (by simp only [Rows.uptoBulk] at hz; omega)
    simpa [Sh.rdB] using this
  | nil =>
    refine ⟨fun t fuel cs x hf => by simp [Sh.fits] at hf, fun fs off fuel cs xs hf h hl _ => ?_⟩
    simp only [Sh.size, Nat.add_zero] at hl
    simp [Sh.rdB, hl]
  | cons a r iha ihr =>
    refine ⟨fun t fuel cs x hf => by simp [Sh.fits] at hf, fun fs off fuel cs xs hf h hl hz => ?_⟩
    cases fs with
    | nil => simp [Sh.fits] at hf
    | cons f fs =>
      simp only [Sh.fits, Bool.and_eq_true, beq_iff_eq] at hf
      obtain ⟨⟨⟨ha, ho⟩, hs⟩, hr⟩ := hf
      obtain ⟨hxl, hx⟩ := h
      cases xs with
      | nil => simp at hxl
      | cons x0 xs =>
        have h0 := hx 0 f rfl
        simp only [List.getElem?_cons_zero] at h0
        simp only [Sh.size] at hl
        refine ⟨(cs.drop off).take a.size, (cs.drop off).drop a.size, (List.take_append_drop _ _).symm, ?_, ?_⟩
        · rw [ho, hs] at h0
          exact iha.1 f.type fuel _ x0 ha h0 (by simp only [List.map_cons, Rows.uptoBulkAll] at hz; omega)
        · rw [List.drop_drop]
          exact ihr.2 fs (off + a.size) fuel cs xs hr ⟨by simpa using hxl, fun i g hi => by have := hx (i + 1) g (by simpa using hi); simpa using this⟩ (by omega) (by simp only [List.map_cons, Rows.uptoBulkAll] at hz; omega)
end

/-- a slice that came in, its elements' cells one by one -/
theorem rdB_slice {w : World} {B : Nat} {e : Sh} {sz bytes : Nat} {cs : List Value} (h : Sh.rdB w B (.sl e sz bytes) cs) (hsz : 0 < sz) :
    ∃ A len cap, cs = [.slice A len cap] ∧ len ≤ cap ∧ len ≤ B ∧ (0 < len → ∃ b off, A = some ⟨b, off, none⟩ ∧ ∀ i, i < len → ∃ c, c.length = sz ∧ (∀ j, j < sz → w.cell? ⟨b, off + i * sz + j, none⟩ = c[j]?) ∧ Sh.rdB w B e c) := by
  obtain ⟨A, len, cap, rfl, hl, hc, hr⟩ := h
  refine ⟨A, len, cap, rfl, hl, hc, fun h0 => ?_⟩
  obtain ⟨a, rfl, hx⟩ := hr h0
  obtain ⟨b, off, spot⟩ := a
  have hspot : spot = none := by
    obtain ⟨c, hcl, hcell, _⟩ := hx 0 h0
    have := hcell 0 hsz
    rw [List.getElem?_eq_getElem (by omega)] at this
    simpa [Addr.add] using World.cell?_spot this
  subst hspot
  refine ⟨b, off, rfl, fun i hi => ?_⟩
  obtain ⟨c, hcl, hcell, hrd⟩ := hx i hi
  refine ⟨c, hcl, fun j hj => ?_, hrd⟩
  have := hcell j hj
  have e : (Addr.add (Addr.add ⟨b, off, none⟩ (i * sz)) j) = ⟨b, off + i * sz + j, none⟩ := by
    unfold Addr.add
    by_cases h1 : i * sz = 0 <;> by_cases h2 : j = 0 <;> simp [h1, h2]
  rwa [e] at this
end Go.Proofs.YtbjckahaalbpaaaDoor
