import Derived.Test.YtpmfjombfcnhmaaGreatDoorB
import Derived.Deep.Slices
import Derived.SizedLaws
import Derived.ChangeArms
import Derived.OpenShut
import Derived.Test.YtpmfjombfcnhmaaGreatDoorRows
import Derived.Test.YtpmfjombfcnhmaaGreatDoorHeavy
import Derived.Test.YtpmfjombfcnhmaaGreatDoorCards
import Derived.Test.YtpmfjombfcnhmaaGreatDoorTie
import Derived.Lib.LaidIn
import Derived.Lib.LaidU8T
import Derived.PinnedBridge
import Derived.Deep.DeepHandedRow
import Derived.Deep.DeepWitnessRowRef
import Derived.ShutString
import Derived.ChangeOld
set_option linter.unusedVariables false
set_option linter.unusedSimpArgs false
set_option linter.unnecessarySimpa false
/- What the reading of an argument says of its cells, by the shape of its type: one theorem for ints, bools, strings, structs in structs and slices of all these. -/
namespace Go.Proofs.YtpmfjombfcnhmaaGreatDoor
open Go Go.RowKit

/-- a type's shape: a struct is a list of shapes, made of 'nil' and 'cons' -/
inductive Sh where
  | int (k : IntKind) | bool | str
  | sl (e : Sh) (sz bytes : Nat)
  | st (s : Sh)
  | nil
  | cons (a r : Sh)
def Sh.size : Sh → Nat
  | .int _ | .bool | .str | .sl _ _ _ => 1
  | .st s => s.size
  | .nil => 0
  | .cons a r => a.size + r.size
/-- what the cells hold -/
def Sh.rd (w : World) : Sh → List Value → Prop
  | .int k, cs => ∃ n, cs = [.int k n] ∧ (Lit.int k n).wf = true
  | .bool, cs => ∃ b, cs = [.bool b]
  | .str, cs => ∃ s, cs = [.string s] ∧ s.size ≤ 140737488351232
  | .sl e sz bytes, cs => ∃ A len cap, cs = [.slice A len cap] ∧ len ≤ cap ∧ cap * bytes ≤ 140737488351232 ∧
      (0 < len → ∃ a, A = some a ∧ ∀ i, i < len → ∃ c, c.length = sz ∧ (∀ j, j < sz → w.cell? ((a.add (i * sz)).add j) = c[j]?) ∧ Sh.rd w e c)
  | .st s, cs => Sh.rd w s cs
  | .nil, cs => cs = []
  | .cons a r, cs => ∃ c1 c2, cs = c1 ++ c2 ∧ Sh.rd w a c1 ∧ Sh.rd w r c2
/-- does a type have the shape (or: do a struct's fields, from an offset on)? -/
def Sh.fits (P : Program) : Sh → TypeId ⊕ (List Field × Nat) → Bool
  | .int k, .inl t => match P.underlying t with | some (.int k') => decide (k' = k) | _ => false
  | .bool, .inl t => match P.underlying t with | some .bool => true | _ => false
  | .str, .inl t => match P.underlying t with | some .string => true | _ => false
  | .sl e sz bytes, .inl t => match P.underlying t with | some (.slice e') => e.fits P (.inl e') && P.cellsOf e' == sz && P.bytesOf e' == bytes | _ => false
  | .st s, .inl t => match P.underlying t with | some (.struct fs) => s.fits P (.inr (fs.toList, 0)) && P.cellsOf t == s.size | _ => false
  | .nil, .inr ([], _) => true
  | .cons a r, .inr (f :: fs, off) => a.fits P (.inl f.type) && f.offset == off && P.cellsOf f.type == a.size && r.fits P (.inr (fs, off + a.size))
  | _, _ => false

section
variable {H : Type} {enc : TypeId × Value → H} {P : Program} {w : World}
theorem weightsAll_mem {e : TypeId} : ∀ {l : List (DataW H)} {d : DataW H}, d ∈ l → ∀ n ∈ d.weights P e, n ∈ DataW.weightsAll P e l
  | d' :: r, d, hd, n, hn => by
    simp only [DataW.weightsAll, List.mem_append]
    rcases List.mem_cons.1 hd with rfl | h
    · exact Or.inl hn
    · exact Or.inr (weightsAll_mem h n hn)

theorem und_int {t : TypeId} {k : IntKind} (h : (Sh.int k).fits P (.inl t) = true) : P.underlying t = some (.int k) := by
  unfold Sh.fits at h
  split at h
  · rename_i hu; simp at h; rw [hu, h]
  · cases h
theorem und_bool {t : TypeId} (h : Sh.bool.fits P (.inl t) = true) : P.underlying t = some .bool := by
  unfold Sh.fits at h
  split at h
  · assumption
  · cases h
theorem und_str {t : TypeId} (h : Sh.str.fits P (.inl t) = true) : P.underlying t = some .string := by
  unfold Sh.fits at h
  split at h
  · assumption
  · cases h
theorem und_sl {t : TypeId} {e : Sh} {sz bytes : Nat} (h : (Sh.sl e sz bytes).fits P (.inl t) = true) : ∃ e', P.underlying t = some (.slice e') ∧ e.fits P (.inl e') = true ∧ P.cellsOf e' = sz ∧ P.bytesOf e' = bytes := by
  unfold Sh.fits at h
  split at h
  · rename_i e' hu; simp at h; exact ⟨e', hu, h.1.1, h.1.2, h.2⟩
  · cases h
theorem und_st {t : TypeId} {s : Sh} (h : (Sh.st s).fits P (.inl t) = true) : ∃ fs, P.underlying t = some (.struct fs) ∧ s.fits P (.inr (fs.toList, 0)) = true ∧ P.cellsOf t = s.size := by
  unfold Sh.fits at h
  split at h
  · rename_i fs hu; simp at h; exact ⟨fs, hu, h.1, h.2⟩
  · cases h
/-- the fields' readings, one by one -/
def Each (enc : TypeId × Value → H) (P : Program) (w : World) (fuel : Nat) (cs : List Value) (fs : List Field) (xs : List (DataW H × List MemPlace)) : Prop :=
  xs.length = fs.length ∧ ∀ (i : Nat) (f : Field), fs[i]? = some f → DataW.trod enc P w 0 (fun _ => true) true fuel f.type ((cs.drop f.offset).take (P.cellsOf f.type)) = xs[i]?

theorem Sh.rd_of (s : Sh) : (∀ t fuel (cs : List Value) x, s.fits P (.inl t) = true → DataW.trod enc P w 0 (fun _ => true) true fuel t cs = some x → (∀ n ∈ x.1.weights P t, n ≤ reachBytes) → s.rd w cs) ∧
    (∀ fs off fuel (cs : List Value) xs, s.fits P (.inr (fs, off)) = true → Each enc P w fuel cs fs xs → cs.length = off + s.size →
      (∀ n ∈ DataW.weightsEach P (fs.map (·.type)) (xs.map (·.1)), n ≤ reachBytes) → s.rd w (cs.drop off)) := by
  induction s with
  | int k =>
    refine ⟨fun t fuel cs x hf h _ => ?_, fun fs off fuel cs xs hf => by simp [Sh.fits] at hf⟩
    obtain ⟨n, rfl, _, hw⟩ := DataW.trod_int (und_int hf) h
    exact ⟨n, rfl, hw⟩
  | bool =>
    refine ⟨fun t fuel cs x hf h _ => ?_, fun fs off fuel cs xs hf => by simp [Sh.fits] at hf⟩
    obtain ⟨n, rfl, _⟩ := DataW.trod_bool (und_bool hf) h
    exact ⟨n, rfl⟩
  | str =>
    refine ⟨fun t fuel cs x hf h hz => ?_, fun fs off fuel cs xs hf => by simp [Sh.fits] at hf⟩
    obtain ⟨s, rfl, rfl, _⟩ := DataW.trod_string (und_str hf) h
    refine ⟨s, rfl, ?_⟩
    have := hz s.data.toList.length (by simp [DataW.weights])
    rw [Array.length_toList] at this
    exact this
  | sl e sz bytes ih =>
    refine ⟨fun t fuel cs x hf h hz => ?_, fun fs off fuel cs xs hf => by simp [Sh.fits] at hf⟩
    obtain ⟨e', hu, hfe, rfl, rfl⟩ := und_sl hf
    rcases Deep.open_slice hu h with ⟨rfl, _⟩ | ⟨a, len, cap, m, n, D, Pl, rfl, _, hl, _, hm, rfl, hx⟩
    · exact ⟨none, 0, 0, rfl, Nat.le_refl _, by omega, fun h0 => absurd h0 (by omega)⟩
    · simp only [if_true] at hm
      subst hm
      have hw : ∀ n ∈ (m * P.bytesOf e' :: (DataW.weightsAll P e' ((List.range len).map D) ++ DataW.weightsAll P e' ((List.range (m - len)).map fun j => D (len + j)))), n ≤ reachBytes := by
        intro n hn
        refine hz n ?_
        simp only [DataW.weights, hu]
        simpa [show len + (m - len) = m by omega] using hn
      refine ⟨some a, len, m, rfl, hl, hw _ (by simp), fun _ => ⟨a, rfl, fun i hi => ?_⟩⟩
      obtain ⟨c, hc1, hc2⟩ := hx i (by omega)
      obtain ⟨_, hlen, hcell⟩ := World.cells?_some hc1
      refine ⟨c, hlen, hcell, ih.1 e' n c (D i, Pl i) hfe hc2 fun q hq => hw q ?_⟩
      exact List.mem_cons_of_mem _ (List.mem_append_left _ (weightsAll_mem (List.mem_map.2 ⟨i, by simpa using hi, rfl⟩) q hq))
  | st s ih =>
    refine ⟨fun t fuel cs x hf h hz => ?_, fun fs off fuel cs xs hf => by simp [Sh.fits] at hf⟩
    obtain ⟨fs, hu, hfs, hc⟩ := und_st hf
    obtain ⟨xs, n, rfl, rfl, hlen, hxl, hx⟩ := DataW.trod_struct hu h
    have := ih.2 fs.toList 0 n cs xs hfs ⟨by simpa using hxl, fun i f hi => hx i f (by simpa using hi)⟩ (by omega) (fun q hq => hz q (by simpa [DataW.weights, hu] using hq))
    simpa [Sh.rd] using this
  | nil =>
    refine ⟨fun t fuel cs x hf => by simp [Sh.fits] at hf, fun fs off fuel cs xs hf h hl _ => ?_⟩
    simp only [Sh.size, Nat.add_zero] at hl
    simp [Sh.rd, hl]
  | cons a r iha ihr =>
    refine ⟨fun t fuel cs x hf => by simp [Sh.fits] at hf, fun fs off fuel cs xs hf h hl hz => ?_⟩
    cases fs with
    | nil => simp [Sh.fits] at hf
    | cons f fs =>
      simp only [Sh.fits, Bool.and_eq_true, beq_iff_eq] at hf
      obtain ⟨⟨⟨ha, ho⟩, hs⟩, hr⟩ := hf
      obtain ⟨hxl, hx⟩ := h
      cases xs with
      | nil => simp at hxl
      | cons x0 xs =>
        have h0 := hx 0 f rfl
        simp only [List.getElem?_cons_zero] at h0
        simp only [Sh.size] at hl
        refine ⟨(cs.drop off).take a.size, (cs.drop off).drop a.size, (List.take_append_drop _ _).symm, ?_, ?_⟩
        · rw [ho, hs] at h0
          exact iha.1 f.type fuel _ x0 ha h0 fun q hq => hz q (by simp [DataW.weightsEach]; exact Or.inl hq)
        · rw [List.drop_drop]
          exact ihr.2 fs (off + a.size) fuel cs xs hr ⟨by simpa using hxl, fun i g hi => by have := hx (i + 1) g (by simpa using hi); simpa using this⟩ (by omega) fun q hq => hz q (by simp [DataW.weightsEach]; exact Or.inr (by simpa using hq))
end

theorem choose_list {α : Type} {n : Nat} {p : Nat → α → Prop} (h : ∀ i, i < n → ∃ x, p i x) : ∃ L : List α, L.length = n ∧ ∀ i (hi : i < L.length), p i L[i] := by
  induction n with
  | zero => exact ⟨[], rfl, fun i hi => absurd hi (by simp)⟩
  | succ n ih =>
    obtain ⟨L, hl, hL⟩ := ih fun i hi => h i (by omega)
    obtain ⟨x, hx⟩ := h n (by omega)
    refine ⟨L ++ [x], by simp [hl], fun i hi => ?_⟩
    by_cases hin : i < L.length
    · rw [List.getElem_append_left hin]; exact hL i hin
    · have : i = n := by simp at hi; omega
      subst this
      rw [List.getElem_append_right (by omega)]
      simpa [hl] using hx
/-- a slice that came in: its elements' cells, one by one -/
theorem rd_slice {w : World} {e : Sh} {sz bytes : Nat} {cs : List Value} (h : Sh.rd w (.sl e sz bytes) cs) (hsz : 0 < sz) :
    ∃ A len cap, cs = [.slice A len cap] ∧ len ≤ cap ∧ cap * bytes ≤ 140737488351232 ∧ (0 < len → ∃ b off, A = some ⟨b, off, none⟩ ∧ ∀ i, i < len → ∃ c, c.length = sz ∧ (∀ j, j < sz → w.cell? ⟨b, off + i * sz + j, none⟩ = c[j]?) ∧ Sh.rd w e c) := by
  obtain ⟨A, len, cap, rfl, hl, hc, hr⟩ := h
  refine ⟨A, len, cap, rfl, hl, hc, fun h0 => ?_⟩
  obtain ⟨a, rfl, hx⟩ := hr h0
  obtain ⟨b, off, spot⟩ := a
  have hspot : spot = none := by
    obtain ⟨c, hcl, hcell, _⟩ := hx 0 h0
    have := hcell 0 hsz
    rw [List.getElem?_eq_getElem (by omega)] at this
    simpa [Addr.add] using World.cell?_spot this
  subst hspot
  refine ⟨b, off, rfl, fun i hi => ?_⟩
  obtain ⟨c, hcl, hcell, hrd⟩ := hx i hi
  refine ⟨c, hcl, fun j hj => ?_, hrd⟩
  have := hcell j hj
  have e : (Addr.add (Addr.add ⟨b, off, none⟩ (i * sz)) j) = ⟨b, off + i * sz + j, none⟩ := by
    unfold Addr.add
    by_cases h1 : i * sz = 0 <;> by_cases h2 : j = 0 <;> simp [h1, h2]
  rwa [e] at this
theorem rd_ints {w : World} {cs : List Value} (h : Sh.rd w (.sl (.int .i64) 1 8) cs) : ∃ v l, cs = [v] ∧ RdI w v l ∧ l.length * 8 ≤ 140737488351232 ∧ ∀ x ∈ l, -9223372036854775808 ≤ x ∧ x ≤ 9223372036854775807 := by
  obtain ⟨A, len, cap, rfl, hl, hc, hr⟩ := rd_slice h (by omega)
  have hx : ∀ i, i < len → ∃ x : Int, (-9223372036854775808 ≤ x ∧ x ≤ 9223372036854775807) ∧ ∀ b off, A = some ⟨b, off, none⟩ → w.cell? ⟨b, off + i * 1, none⟩ = some (.int .i64 x) := by
    intro i hi
    obtain ⟨b, off, rfl, hr2⟩ := hr (by omega)
    obtain ⟨c, _, hcell, n, rfl, hw⟩ := hr2 i hi
    refine ⟨n, bounds_i64 hw, fun b' off' e => ?_⟩
    cases e
    simpa using hcell 0 (by omega)
  obtain ⟨l, hll, hl2⟩ := choose_list hx
  subst hll
  refine ⟨_, l, rfl, ⟨A, cap, rfl, hl, fun h0 => ?_⟩, by omega, fun x hx => ?_⟩
  · obtain ⟨b, off, rfl, _⟩ := hr h0
    refine ⟨b, off, rfl, fun i hi j hj => ?_⟩
    obtain rfl : j = 0 := by omega
    rw [Nat.add_zero, (hl2 i hi).2 b off rfl]
    simp [hi]
  · obtain ⟨i, hi, rfl⟩ := List.getElem_of_mem hx
    exact (hl2 i hi).1
end Go.Proofs.YtpmfjombfcnhmaaGreatDoor

/- What the bound on an argument's bulk gives: lengths and texts of what is read. -/
namespace Go.Proofs.YtpmfjombfcnhmaaGreatDoor.bulks
theorem one_le {H : Type} (d : DataW H) : 1 ≤ Rows.uptoBulk d := by
  cases d with
  | lit l => cases l <;> simp [Rows.uptoBulk]
  | nil => simp [Rows.uptoBulk]
  | ptr d => simp [Rows.uptoBulk]
  | slice elems spare => simp [Rows.uptoBulk]
  | agg parts => simp [Rows.uptoBulk]
  | iface t d => simp [Rows.uptoBulk]
  | map entries => simp [Rows.uptoBulk]
  | held h => simp [Rows.uptoBulk]
theorem part_le {H : Type} {d : DataW H} {l : List (DataW H)} (h : d ∈ l) : Rows.uptoBulk d ≤ Rows.uptoBulkAll l := by
  induction l with
  | nil => cases h
  | cons x r ih =>
    simp only [Rows.uptoBulkAll]
    cases List.mem_cons.1 h with
    | inl e => subst e; omega
    | inr e => have := ih e; omega
theorem length_le {H : Type} (l : List (DataW H)) : l.length ≤ Rows.uptoBulkAll l := by
  induction l with
  | nil => simp [Rows.uptoBulkAll]
  | cons x r ih => have := one_le x; simp only [Rows.uptoBulkAll, List.length_cons]; omega
theorem slice_le {H : Type} (elems spare : List (DataW H)) : elems.length + spare.length + 1 ≤ Rows.uptoBulk (.slice elems spare) := by
  have h1 := length_le elems
  have h2 := length_le spare
  simp only [Rows.uptoBulk]
  omega
theorem slice_elems {H : Type} (elems spare : List (DataW H)) : Rows.uptoBulkAll elems + 1 ≤ Rows.uptoBulk (.slice elems spare) := by
  simp only [Rows.uptoBulk]
  omega
end Go.Proofs.YtpmfjombfcnhmaaGreatDoor.bulks
namespace Go.Proofs.YtpmfjombfcnhmaaGreatDoor
open Go Go.RowKit
/-- what the cells hold -/
def Sh.rdB (w : World) (B : Nat) : Sh → List Value → Prop
  | .int k, cs => ∃ n, cs = [.int k n] ∧ (Lit.int k n).wf = true
  | .bool, cs => ∃ b, cs = [.bool b]
  | .str, cs => ∃ s, cs = [.string s] ∧ s.size ≤ B
  | .sl e sz bytes, cs => ∃ A len cap, cs = [.slice A len cap] ∧ len ≤ cap ∧ len ≤ B ∧
      (0 < len → ∃ a, A = some a ∧ ∀ i, i < len → ∃ c, c.length = sz ∧ (∀ j, j < sz → w.cell? ((a.add (i * sz)).add j) = c[j]?) ∧ Sh.rdB w B e c)
  | .st s, cs => Sh.rdB w B s cs
  | .nil, cs => cs = []
  | .cons a r, cs => ∃ c1 c2, cs = c1 ++ c2 ∧ Sh.rdB w B a c1 ∧ Sh.rdB w B r c2
section
variable {H : Type} {enc : TypeId × Value → H} {P : Program} {w : World}
theorem Sh.rdB_of {B : Nat} (s : Sh) : (∀ t fuel (cs : List Value) x, s.fits P (.inl t) = true → DataW.trod enc P w 0 (fun _ => true) true fuel t cs = some x → Rows.uptoBulk x.1 ≤ B → s.rdB w B cs) ∧
    (∀ fs off fuel (cs : List Value) xs, s.fits P (.inr (fs, off)) = true → Each enc P w fuel cs fs xs → cs.length = off + s.size →
      Rows.uptoBulkAll (xs.map (·.1)) ≤ B → s.rdB w B (cs.drop off)) := by
  induction s with
  | int k =>
    refine ⟨fun t fuel cs x hf h _ => ?_, fun fs off fuel cs xs hf => by simp [Sh.fits] at hf⟩
    obtain ⟨n, rfl, _, hw⟩ := DataW.trod_int (und_int hf) h
    exact ⟨n, rfl, hw⟩
  | bool =>
    refine ⟨fun t fuel cs x hf h _ => ?_, fun fs off fuel cs xs hf => by simp [Sh.fits] at hf⟩
    obtain ⟨n, rfl, _⟩ := DataW.trod_bool (und_bool hf) h
    exact ⟨n, rfl⟩
  | str =>
    refine ⟨fun t fuel cs x hf h hz => ?_, fun fs off fuel cs xs hf => by simp [Sh.fits] at hf⟩
    obtain ⟨s, rfl, rfl, _⟩ := DataW.trod_string (und_str hf) h
    refine ⟨s, rfl, ?_⟩
    simp only [Rows.uptoBulk, Array.length_toList] at hz
    show s.data.size ≤ B
    omega
  | sl e sz bytes ih =>
    refine ⟨fun t fuel cs x hf h hz => ?_, fun fs off fuel cs xs hf => by simp [Sh.fits] at hf⟩
    obtain ⟨e', hu, hfe, rfl, rfl⟩ := und_sl hf
    rcases Deep.open_slice hu h with ⟨rfl, _⟩ | ⟨a, len, cap, m, n, D, Pl, rfl, _, hl, _, hm, rfl, hx⟩
    · exact ⟨none, 0, 0, rfl, Nat.le_refl _, by omega, fun h0 => absurd h0 (by omega)⟩
    · simp only [if_true] at hm
      subst hm
      change Rows.uptoBulk (.slice ((List.range len).map D) ((List.range (m - len)).map fun j => D (len + j))) ≤ B at hz
      have h1 := bulks.slice_le ((List.range len).map D) ((List.range (m - len)).map fun j => D (len + j))
      have h2 := bulks.slice_elems ((List.range len).map D) ((List.range (m - len)).map fun j => D (len + j))
      simp only [List.length_map, List.length_range] at h1
      refine ⟨some a, len, m, rfl, hl, by omega, fun _ => ⟨a, rfl, fun i hi => ?_⟩⟩
      obtain ⟨c, hc1, hc2⟩ := hx i (by omega)
      obtain ⟨_, hlen, hcell⟩ := World.cells?_some hc1
      refine ⟨c, hlen, hcell, ih.1 e' n c (D i, Pl i) hfe hc2 ?_⟩
      have h3 := bulks.part_le (d := D i) (l := (List.range len).map D) (List.mem_map.2 ⟨i, by simpa using hi, rfl⟩)
      show Rows.uptoBulk (D i) ≤ B
      omega
  | st s ih =>
    refine ⟨fun t fuel cs x hf h hz => ?_, fun fs off fuel cs xs hf => by simp [Sh.fits] at hf⟩
    obtain ⟨fs, hu, hfs, hc⟩ := und_st hf
    obtain ⟨xs, n, rfl, rfl, hlen, hxl, hx⟩ := DataW.trod_struct hu h
    have := ih.2 fs.toList 0 n cs xs hfs ⟨by simpa using hxl, fun i f hi => hx i f (by simpa using hi)⟩ (by omega) (by simp only [Rows.uptoBulk] at hz; omega)
    simpa [Sh.rdB] using this
  | nil =>
    refine ⟨fun t fuel cs x hf => by simp [Sh.fits] at hf, fun fs off fuel cs xs hf h hl _ => ?_⟩
    simp only [Sh.size, Nat.add_zero] at hl
    simp [Sh.rdB, hl]
  | cons a r iha ihr =>
    refine ⟨fun t fuel cs x hf => by simp [Sh.fits] at hf, fun fs off fuel cs xs hf h hl hz => ?_⟩
    cases fs with
    | nil => simp [Sh.fits] at hf
    | cons f fs =>
      simp only [Sh.fits, Bool.and_eq_true, beq_iff_eq] at hf
      obtain ⟨⟨⟨ha, ho⟩, hs⟩, hr⟩ := hf
      obtain ⟨hxl, hx⟩ := h
      cases xs with
      | nil => simp at hxl
      | cons x0 xs =>
        have h0 := hx 0 f rfl
        simp only [List.getElem?_cons_zero] at h0
        simp only [Sh.size] at hl
        refine ⟨(cs.drop off).take a.size, (cs.drop off).drop a.size, (List.take_append_drop _ _).symm, ?_, ?_⟩
        · rw [ho, hs] at h0
          exact iha.1 f.type fuel _ x0 ha h0 (by simp only [List.map_cons, Rows.uptoBulkAll] at hz; omega)
        · rw [List.drop_drop]
          exact ihr.2 fs (off + a.size) fuel cs xs hr ⟨by simpa using hxl, fun i g hi => by have := hx (i + 1) g (by simpa using hi); simpa using this⟩ (by omega) (by simp only [List.map_cons, Rows.uptoBulkAll] at hz; omega)
end

/-- a slice that came in, its elements' cells one by one -/
theorem rdB_slice {w : World} {B : Nat} {e : Sh} {sz bytes : Nat} {cs : List Value} (h : Sh.rdB w B (.sl e sz bytes) cs) (hsz : 0 < sz) :
    ∃ A len cap, cs = [.slice A len cap] ∧ len ≤ cap ∧ len ≤ B ∧ (0 < len → ∃ b off, A = some ⟨b, off, none⟩ ∧ ∀ i, i < len → ∃ c, c.length = sz ∧ (∀ j, j < sz → w.cell? ⟨b, off + i * sz + j, none⟩ = c[j]?) ∧ Sh.rdB w B e c) := by
  obtain ⟨A, len, cap, rfl, hl, hc, hr⟩ := h
  refine ⟨A, len, cap, rfl, hl, hc, fun h0 => ?_⟩
  obtain ⟨a, rfl, hx⟩ := hr h0
  obtain ⟨b, off, spot⟩ := a
  have hspot : spot = none := by
    obtain ⟨c, hcl, hcell, _⟩ := hx 0 h0
    have := hcell 0 hsz
    rw [List.getElem?_eq_getElem (by omega)] at this
    simpa [Addr.add] using World.cell?_spot this
  subst hspot
  refine ⟨b, off, rfl, fun i hi => ?_⟩
  obtain ⟨c, hcl, hcell, hrd⟩ := hx i hi
  refine ⟨c, hcl, fun j hj => ?_, hrd⟩
  have := hcell j hj
  have e : (Addr.add (Addr.add ⟨b, off, none⟩ (i * sz)) j) = ⟨b, off + i * sz + j, none⟩ := by
    unfold Addr.add
    by_cases h1 : i * sz = 0 <;> by_cases h2 : j = 0 <;> simp [h1, h2]
  rwa [e] at this
end Go.Proofs.YtpmfjombfcnhmaaGreatDoor

/- A law's argument read: screens, numbers. -/
namespace Go.Proofs.YtpmfjombfcnhmaaGreatDoor
open Go Go.RowKit

def shI : Sh := .int .i64
def shAttr : Sh := .st (.cons shI (.cons shI (.cons shI .nil)))
def shCell : Sh := .st (.cons shI (.cons .str (.cons shI (.cons shAttr .nil))))
def shGrid : Sh := .st (.cons shI (.cons shI (.cons (.sl shCell 6 56) .nil)))
def shCur : Sh := .st (.cons shI (.cons shI (.cons .bool (.cons shAttr (.cons shI (.cons shI (.cons shI (.cons .bool .nil))))))))
def shScr : Sh := .st (.cons shGrid (.cons shGrid (.cons .bool (.cons shCur (.cons shCur (.cons shCur (.cons shI (.cons shI (.cons (.sl .bool 1 1) (.cons shI (.cons .str (.cons shI .nil))))))))))))
def shAsk : Sh := .st (.cons (.sl shScr 43 400) (.cons shI (.cons shI (.cons shI (.cons shI .nil)))))
theorem shAsk_fits : shAsk.fits Tryz.prog (.inl 24) = true := by kernel_rfl

theorem rdB_int {w : World} {B : Nat} {cs : List Value} (h : shI.rdB w B cs) : ∃ n : Int, cs = [.int .i64 n] := by
  obtain ⟨n, rfl, _⟩ := h
  exact ⟨n, rfl⟩
theorem rdB_cons {w : World} {B : Nat} {a r : Sh} {cs : List Value} (h : (Sh.cons a r).rdB w B cs) : ∃ c1 c2, cs = c1 ++ c2 ∧ a.rdB w B c1 ∧ r.rdB w B c2 := h
theorem rdB_nil {w : World} {B : Nat} {cs : List Value} (h : Sh.nil.rdB w B cs) : cs = [] := h
theorem rdB_st {w : World} {B : Nat} {s : Sh} {cs : List Value} (h : (Sh.st s).rdB w B cs) : s.rdB w B cs := h
theorem rdB_attr {w : World} {B : Nat} {cs : List Value} (h : shAttr.rdB w B cs) : ∃ a : Attr, cs = [.int .i64 a.fg, .int .i64 a.bg, .int .i64 a.fl] := by
  obtain ⟨c1, r1, rfl, h1, h⟩ := rdB_cons (rdB_st h)
  obtain ⟨c2, r2, rfl, h2, h⟩ := rdB_cons h
  obtain ⟨c3, r3, rfl, h3, h⟩ := rdB_cons h
  obtain rfl := rdB_nil h
  obtain ⟨x, rfl⟩ := rdB_int h1
  obtain ⟨y, rfl⟩ := rdB_int h2
  obtain ⟨z, rfl⟩ := rdB_int h3
  exact ⟨⟨x, y, z⟩, rfl⟩
theorem rdB_str {w : World} {B : Nat} {cs : List Value} (h : Sh.str.rdB w B cs) : ∃ s : ByteArray, cs = [.string s] ∧ s.size ≤ B := h
theorem rdB_bool {w : World} {B : Nat} {cs : List Value} (h : Sh.bool.rdB w B cs) : ∃ b : Bool, cs = [.bool b] := h
theorem rdB_cell {w : World} {B : Nat} {cs : List Value} (h : shCell.rdB w B cs) : ∃ c : Cell, (∀ j, j < 6 → cs[j]? = some (cellV c j)) ∧ c.cb.size ≤ B := by
  obtain ⟨c1, r1, rfl, h1, h⟩ := rdB_cons (rdB_st h)
  obtain ⟨c2, r2, rfl, h2, h⟩ := rdB_cons h
  obtain ⟨c3, r3, rfl, h3, h⟩ := rdB_cons h
  obtain ⟨c4, r4, rfl, h4, h⟩ := rdB_cons h
  obtain rfl := rdB_nil h
  obtain ⟨x, rfl⟩ := rdB_int h1
  obtain ⟨s, rfl, hs⟩ := rdB_str h2
  obtain ⟨z, rfl⟩ := rdB_int h3
  obtain ⟨a, rfl⟩ := rdB_attr h4
  refine ⟨⟨x, s, z, a⟩, fun j hj => ?_, hs⟩
  match j, hj with
  | 0, _ | 1, _ | 2, _ | 3, _ | 4, _ | 5, _ => rfl
theorem rdB_cells {w : World} {cs : List Value} (h : (Sh.sl shCell 6 56).rdB w 1048576 cs) : ∃ v L, cs = [v] ∧ RdC w v L ∧ L.length ≤ 1048576 ∧ txtOk L := by
  obtain ⟨A, len, cap, rfl, hl, hc, hr⟩ := rdB_slice h (by omega)
  have hx : ∀ i, i < len → ∃ x : Cell, x.cb.size ≤ 1048576 ∧ ∀ b off, A = some ⟨b, off, none⟩ → ∀ j, j < 6 → w.cell? ⟨b, off + i * 6 + j, none⟩ = some (cellV x j) := by
    intro i hi
    obtain ⟨b, off, rfl, hr2⟩ := hr (by omega)
    obtain ⟨c, _, hcell, hrd⟩ := hr2 i hi
    obtain ⟨x, hx, hs⟩ := rdB_cell hrd
    refine ⟨x, hs, fun b' off' e j hj => ?_⟩
    cases e
    rw [hcell j hj, hx j hj]
  obtain ⟨L, hll, hl2⟩ := choose_list hx
  subst hll
  refine ⟨_, L, rfl, ⟨A, cap, rfl, hl, fun h0 => ?_⟩, hc, fun i hi => ?_⟩
  · obtain ⟨b, off, rfl, _⟩ := hr h0
    refine ⟨b, off, rfl, fun i hi j hj => ?_⟩
    rw [(hl2 i hi).2 b off rfl j hj]
    simp [at_, hi]
  · simpa [at_, hi] using (hl2 i hi).1
theorem rdB_bools {w : World} {cs : List Value} (h : (Sh.sl .bool 1 1).rdB w 1048576 cs) : ∃ v l, cs = [v] ∧ RdB w v l ∧ l.length ≤ 1048576 := by
  obtain ⟨A, len, cap, rfl, hl, hc, hr⟩ := rdB_slice h (by omega)
  have hx : ∀ i, i < len → ∃ x : Bool, True ∧ ∀ b off, A = some ⟨b, off, none⟩ → w.cell? ⟨b, off + i * 1, none⟩ = some (.bool x) := by
    intro i hi
    obtain ⟨b, off, rfl, hr2⟩ := hr (by omega)
    obtain ⟨c, _, hcell, hrd⟩ := hr2 i hi
    obtain ⟨x, rfl⟩ := rdB_bool hrd
    refine ⟨x, trivial, fun b' off' e => ?_⟩
    cases e
    simpa using hcell 0 (by omega)
  obtain ⟨L, hll, hl2⟩ := choose_list hx
  subst hll
  refine ⟨_, L, rfl, ⟨A, cap, rfl, hl, fun h0 => ?_⟩, hc⟩
  obtain ⟨b, off, rfl, _⟩ := hr h0
  refine ⟨b, off, rfl, fun i hi j hj => ?_⟩
  obtain rfl : j = 0 := by omega
  rw [Nat.add_zero, (hl2 i hi).2 b off rfl]
  simp [hi]
theorem rdB_cur {w : World} {B : Nat} {cs : List Value} (h : shCur.rdB w B cs) : ∃ c : Cur, cs = [.int .i64 c.row, .int .i64 c.col, .bool c.wrap, .int .i64 c.a.fg, .int .i64 c.a.bg, .int .i64 c.a.fl, .int .i64 c.g0, .int .i64 c.g1, .int .i64 c.sh, .bool c.org] := by
  obtain ⟨c1, r1, rfl, h1, h⟩ := rdB_cons (rdB_st h)
  obtain ⟨c2, r2, rfl, h2, h⟩ := rdB_cons h
  obtain ⟨c3, r3, rfl, h3, h⟩ := rdB_cons h
  obtain ⟨c4, r4, rfl, h4, h⟩ := rdB_cons h
  obtain ⟨c5, r5, rfl, h5, h⟩ := rdB_cons h
  obtain ⟨c6, r6, rfl, h6, h⟩ := rdB_cons h
  obtain ⟨c7, r7, rfl, h7, h⟩ := rdB_cons h
  obtain ⟨c8, r8, rfl, h8, h⟩ := rdB_cons h
  obtain rfl := rdB_nil h
  obtain ⟨x1, rfl⟩ := rdB_int h1
  obtain ⟨x2, rfl⟩ := rdB_int h2
  obtain ⟨x3, rfl⟩ := rdB_bool h3
  obtain ⟨x4, rfl⟩ := rdB_attr h4
  obtain ⟨x5, rfl⟩ := rdB_int h5
  obtain ⟨x6, rfl⟩ := rdB_int h6
  obtain ⟨x7, rfl⟩ := rdB_int h7
  obtain ⟨x8, rfl⟩ := rdB_bool h8
  exact ⟨⟨x1, x2, x3, x4, x5, x6, x7, x8⟩, rfl⟩
theorem rdB_grid {w : World} {cs : List Value} (h : shGrid.rdB w 1048576 cs) : ∃ r c v L, cs = [.int .i64 r, .int .i64 c, v] ∧ RdC w v L ∧ L.length ≤ 1048576 ∧ txtOk L := by
  obtain ⟨c1, r1, rfl, h1, h⟩ := rdB_cons (rdB_st h)
  obtain ⟨c2, r2, rfl, h2, h⟩ := rdB_cons h
  obtain ⟨c3, r3, rfl, h3, h⟩ := rdB_cons h
  obtain rfl := rdB_nil h
  obtain ⟨x1, rfl⟩ := rdB_int h1
  obtain ⟨x2, rfl⟩ := rdB_int h2
  obtain ⟨v, L, rfl, hR, hl, ht⟩ := rdB_cells h3
  exact ⟨x1, x2, v, L, rfl, hR, hl, ht⟩
theorem rdB_scr {w : World} {cs : List Value} (h : shScr.rdB w 1048576 cs) : ∃ x : SV, cs = x.l ∧ RdScr w x.s x.m x.o x.t := by
  obtain ⟨c1, r1, rfl, h1, h⟩ := rdB_cons (rdB_st h)
  obtain ⟨c2, r2, rfl, h2, h⟩ := rdB_cons h
  obtain ⟨c3, r3, rfl, h3, h⟩ := rdB_cons h
  obtain ⟨c4, r4, rfl, h4, h⟩ := rdB_cons h
  obtain ⟨c5, r5, rfl, h5, h⟩ := rdB_cons h
  obtain ⟨c6, r6, rfl, h6, h⟩ := rdB_cons h
  obtain ⟨c7, r7, rfl, h7, h⟩ := rdB_cons h
  obtain ⟨c8, r8, rfl, h8, h⟩ := rdB_cons h
  obtain ⟨c9, r9, rfl, h9, h⟩ := rdB_cons h
  obtain ⟨c10, r10, rfl, h10, h⟩ := rdB_cons h
  obtain ⟨c11, r11, rfl, h11, h⟩ := rdB_cons h
  obtain ⟨c12, r12, rfl, h12, h⟩ := rdB_cons h
  obtain rfl := rdB_nil h
  obtain ⟨mr, mc, m, ms, rfl, hm, lm, tm⟩ := rdB_grid h1
  obtain ⟨orr, oc, o, os, rfl, ho, lo, tO⟩ := rdB_grid h2
  obtain ⟨sw, rfl⟩ := rdB_bool h3
  obtain ⟨cur, rfl⟩ := rdB_cur h4
  obtain ⟨sav, rfl⟩ := rdB_cur h5
  obtain ⟨too, rfl⟩ := rdB_cur h6
  obtain ⟨top, rfl⟩ := rdB_int h7
  obtain ⟨bot, rfl⟩ := rdB_int h8
  obtain ⟨t, tabs, rfl, ht, lt⟩ := rdB_bools h9
  obtain ⟨modes, rfl⟩ := rdB_int h10
  obtain ⟨title, rfl, ls⟩ := rdB_str h11
  obtain ⟨last, rfl⟩ := rdB_int h12
  exact ⟨⟨⟨mr, mc, ms, orr, oc, os, sw, cur, sav, too, top, bot, tabs, modes, title, last⟩, m, o, t⟩, rfl, hm, ho, ht, lm, lo, lt, ls, tm, tO⟩
theorem rdB_ask {w : World} {cs : List Value} (h : shAsk.rdB w 1048576 cs) : ∃ v L n m k r, cs = askL v n m k r ∧ RdSS w v L ∧ L.length ≤ 1048576 := by
  obtain ⟨c1, r1, rfl, h1, h⟩ := rdB_cons (rdB_st h)
  obtain ⟨c2, r2, rfl, h2, h⟩ := rdB_cons h
  obtain ⟨c3, r3, rfl, h3, h⟩ := rdB_cons h
  obtain ⟨c4, r4, rfl, h4, h⟩ := rdB_cons h
  obtain ⟨c5, r5, rfl, h5, h⟩ := rdB_cons h
  obtain rfl := rdB_nil h
  obtain ⟨n, rfl⟩ := rdB_int h2
  obtain ⟨m, rfl⟩ := rdB_int h3
  obtain ⟨k, rfl⟩ := rdB_int h4
  obtain ⟨r, rfl⟩ := rdB_int h5
  obtain ⟨A, len, cap, rfl, hl, hc, hr⟩ := rdB_slice h1 (by omega)
  have hx : ∀ i, i < len → ∃ x : SV, RdScr w x.s x.m x.o x.t ∧ ∀ b off, A = some ⟨b, off, none⟩ → ∀ j u, x.l[j]? = some u → w.cell? ⟨b, off + i * 43 + j, none⟩ = some u := by
    intro i hi
    obtain ⟨b, off, rfl, hr2⟩ := hr (by omega)
    obtain ⟨c, hlen, hcell, hrd⟩ := hr2 i hi
    obtain ⟨x, rfl, hR⟩ := rdB_scr hrd
    refine ⟨x, hR, fun b' off' e j u hj => ?_⟩
    cases e
    have hj2 : j < 43 := by rw [← hlen]; exact (List.getElem?_eq_some_iff.1 hj).1
    rw [hcell j hj2]; exact hj
  obtain ⟨L, hll, hl2⟩ := choose_list hx
  subst hll
  refine ⟨_, L, n, m, k, r, rfl, ⟨A, cap, rfl, hl, fun i hi => ?_⟩, hc⟩
  obtain ⟨b, off, rfl, _⟩ := hr (by omega)
  exact ⟨b, off, rfl, (hl2 i hi).2 b off rfl, (hl2 i hi).1⟩
end Go.Proofs.YtpmfjombfcnhmaaGreatDoor

/- What the rows over an Ask share: the witness, the tables that are laid. -/
namespace Go.Proofs.YtpmfjombfcnhmaaGreatDoor
open Go Go.ChangeShapes Go.WideShapes Go.ChangeAt Go.RowKit Go.Lib

theorem own : ownKnob Tryz.prog.godebug = none := by kernel_rfl
theorem laidOut : laidOutB Tryz.prog = true := by kernel_rfl
def wit : Value := .agg #[.slice none 0 0, .int .i64 0, .int .i64 0, .int .i64 0, .int .i64 0]
def witD {H : Type} : List (DataW H) := [.agg [.nil, .lit (.int .i64 0), .lit (.int .i64 0), .lit (.int .i64 0), .lit (.int .i64 0)]]
/-- the settled world, the two variables holding what their initialisers lay -/
noncomputable def laidWorld (os : Os) : World :=
  let w0 := World.holding Tryz.prog os ⟨#[], #[], []⟩
  let put (h : Array Obj) (g : Nat) (cs : Array Value) : Array Obj := h.modify g fun
    | .cells _ t frozen => .cells cs t frozen
    | o => o
  let h1 := put w0.heap 0 (Lib.firstTab.map fun z => Value.int .u8 z).toArray
  let h2 := put h1 1 ((List.range 16).flatMap fun i => [Value.int .u8 (Lib.accLo i), Value.int .u8 (Lib.accHi i)]).toArray
  { w0 with heap := h2 }
theorem accept_eq : (Rows.laid_unicode_utf8_acceptRanges : DataW Unit) = Lib.acceptData := by kernel_rfl
theorem tabs_of {W : World} (h3 : Go.Lib.VarReads Tryz.prog W "unicode/utf8.first" Rows.laid_unicode_utf8_first) (h4 : Go.Lib.VarReads Tryz.prog W "unicode/utf8.acceptRanges" Rows.laid_unicode_utf8_acceptRanges) : U8 W := by
  rw [accept_eq] at h4
  rw [show Rows.laid_unicode_utf8_first = Lib.firstData from Pinned.utf8First_eq] at h3
  exact utf8Tabs_of_readsT (U8Types.of196 Tryz.lays196) ⟨by kernel_rfl, by kernel_rfl, by kernel_rfl, by kernel_rfl, by kernel_rfl, by kernel_rfl, by kernel_rfl⟩ h3 h4
/-- what the witness's world holds, once for all rows -/
theorem laid_all (os : Os) (args : Array Value) : laidMet Tryz.prog Rows.editEraseUptoRow.laid ((laidWorld os).forCall (fun _ _ => 0) ⟨#[], args, []⟩).memory :=
  (LaidIn.of_run (l := Rows.editEraseUptoRow.laid) [1, 0] 8 (by kernel_rfl) (by kernel_rfl) (by kernel_rfl) (by kernel_rfl)).met
theorem vars_all (os : Os) : ((laidWorld os).forCall (fun _ _ => 0) ⟨#[], #[wit], []⟩).variablesRefB Tryz.checked.prog = true := by kernel_rfl
theorem heap_all (os : Os) : (((laidWorld os).forCall (fun _ _ => 0) ⟨#[], #[wit], []⟩).heap.toList.drop Tryz.checked.prog.globals.size).take ((begin Tryz.checked.prog (fun _ _ => 0) default).world.heap.size - Tryz.checked.prog.globals.size) =
      (begin Tryz.checked.prog (fun _ _ => 0) default).world.heap.toList.drop Tryz.checked.prog.globals.size := by kernel_rfl
theorem reads_all (os : Os) {H : Type} (enc : TypeId × Value → H) : ∃ x3, DataW.whole enc Tryz.prog ((laidWorld os).forCall (fun _ _ => 0) ⟨#[], #[wit], []⟩).memory [24] [] false [wit] 8 = some (witD, [], x3) := by
  have hw : (DataW.whole enc Tryz.prog ((laidWorld os).forCall (fun _ _ => 0) ⟨#[], #[wit], []⟩).memory [24] [] false [wit] 8).map (fun x => (x.1, x.2.1)) = some (witD, []) := by kernel_rfl
  obtain ⟨⟨x1, x2, x3⟩, hx, hx1⟩ := Option.map_eq_some_iff.1 hw
  simp only [Prod.mk.injEq] at hx1
  obtain ⟨rfl, rfl⟩ := hx1
  exact ⟨x3, hx⟩
end Go.Proofs.YtpmfjombfcnhmaaGreatDoor
