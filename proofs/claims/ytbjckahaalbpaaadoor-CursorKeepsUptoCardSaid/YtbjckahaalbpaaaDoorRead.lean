/- What the reading of an argument says of its cells, by the shape of its type: one theorem for ints, bools, strings, structs in structs and slices of all these. -/
import Derived.Test.YtbjckahaalbpaaaDoorB
import Derived.Deep.Slices
import Derived.SizedLaws
import Derived.ChangeArms
import Derived.OpenShut
set_option linter.unusedVariables false
set_option linter.unusedSimpArgs false
namespace Go.Proofs.YtbjckahaalbpaaaDoor
open Go Go.RowKit

/-- a type's shape: a struct is a list of shapes, made of 'nil' and 'cons' -/
inductive Sh where
  | int (k : IntKind) | bool | str
  | sl (e : Sh) (sz bytes : Nat)
  | st (s : Sh)
  | nil
  | cons (a r : Sh)
def Sh.size : Sh → Nat
  | .int _ | .bool | .str | .sl _ _ _ => 1
  | .st s => s.size
  | .nil => 0
  | .cons a r => a.size + r.size
/-- what the cells hold -/
def Sh.rd (w : World) : Sh → List Value → Prop
  | .int k, cs => ∃ n, cs = [.int k n] ∧ (Lit.int k n).wf = true
  | .bool, cs => ∃ b, cs = [.bool b]
  | .str, cs => ∃ s, cs = [.string s] ∧ s.size ≤ 140737488351232
  | .sl e sz bytes, cs => ∃ A len cap, cs = [.slice A len cap] ∧ len ≤ cap ∧ cap * bytes ≤ 140737488351232 ∧
      (0 < len → ∃ a, A = some a ∧ ∀ i, i < len → ∃ c, c.length = sz ∧ (∀ j, j < sz → w.cell? ((a.add (i * sz)).add j) = c[j]?) ∧ Sh.rd w e c)
  | .st s, cs => Sh.rd w s cs
  | .nil, cs => cs = []
  | .cons a r, cs => ∃ c1 c2, cs = c1 ++ c2 ∧ Sh.rd w a c1 ∧ Sh.rd w r c2
/-- does a type have the shape (or: do a struct's fields, from an offset on)? -/
def Sh.fits (P : Program) : Sh → TypeId ⊕ (List Field × Nat) → Bool
  | .int k, .inl t => match P.underlying t with | some (.int k') => decide (k' = k) | _ => false
  | .bool, .inl t => match P.underlying t with | some .bool => true | _ => false
  | .str, .inl t => match P.underlying t with | some .string => true | _ => false
  | .sl e sz bytes, .inl t => match P.underlying t with | some (.slice e') => e.fits P (.inl e') && P.cellsOf e' == sz && P.bytesOf e' == bytes | _ => false
  | .st s, .inl t => match P.underlying t with | some (.struct fs) => s.fits P (.inr (fs.toList, 0)) && P.cellsOf t == s.size | _ => false
  | .nil, .inr ([], _) => true
  | .cons a r, .inr (f :: fs, off) => a.fits P (.inl f.type) && f.offset == off && P.cellsOf f.type == a.size && r.fits P (.inr (fs, off + a.size))
  | _, _ => false

section
variable {H : Type} {enc : TypeId × Value → H} {P : Program} {w : World}
theorem weightsAll_mem {e : TypeId} : ∀ {l : List (DataW H)} {d : DataW H}, d ∈ l → ∀ n ∈ d.weights P e, n ∈ DataW.weightsAll P e l
  | d' :: r, d, hd, n, hn => by
    simp only [DataW.weightsAll, List.mem_append]
    rcases List.mem_cons.1 hd with rfl | h
    · exact Or.inl hn
    · exact Or.inr (weightsAll_mem h n hn)

theorem und_int {t : TypeId} {k : IntKind} (h : (Sh.int k).fits P (.inl t) = true) : P.underlying t = some (.int k) := by
  unfold Sh.fits at h
  split at h
  · rename_i hu; simp at h; rw [hu, h]
  · cases h
theorem und_bool {t : TypeId} (h : Sh.bool.fits P (.inl t) = true) : P.underlying t = some .bool := by
  unfold Sh.fits at h
  split at h
  · assumption
  · cases h
theorem und_str {t : TypeId} (h : Sh.str.fits P (.inl t) = true) : P.underlying t = some .string := by
  unfold Sh.fits at h
  split at h
  · assumption
  · cases h
theorem und_sl {t : TypeId} {e : Sh} {sz bytes : Nat} (h : (Sh.sl e sz bytes).fits P (.inl t) = true) : ∃ e', P.underlying t = some (.slice e') ∧ e.fits P (.inl e') = true ∧ P.cellsOf e' = sz ∧ P.bytesOf e' = bytes := by
  unfold Sh.fits at h
  split at h
  · rename_i e' hu; simp at h; exact ⟨e', hu, h.1.1, h.1.2, h.2⟩
  · cases h
theorem und_st {t : TypeId} {s : Sh} (h : (Sh.st s).fits P (.inl t) = true) : ∃ fs, P.underlying t = some (.struct fs) ∧ s.fits P (.inr (fs.toList, 0)) = true ∧ P.cellsOf t = s.size := by
  unfold Sh.fits at h
  split at h
  · rename_i fs hu; simp at h; exact ⟨fs, hu, h.1, h.2⟩
  · cases h
/-- the fields' readings, one by one -/
def Each (enc : TypeId × Value → H) (P : Program) (w : World) (fuel : Nat) (cs : List Value) (fs : List Field) (xs : List (DataW H × List MemPlace)) : Prop :=
  xs.length = fs.length ∧ ∀ (i : Nat) (f : Field), fs[i]? = some f → DataW.trod enc P w 0 (fun _ => true) true fuel f.type ((cs.drop f.offset).take (P.cellsOf f.type)) = xs[i]?

theorem Sh.rd_of (s : Sh) : (∀ t fuel (cs : List Value) x, s.fits P (.inl t) = true → DataW.trod enc P w 0 (fun _ => true) true fuel t cs = some x → (∀ n ∈ x.1.weights P t, n ≤ reachBytes) → s.rd w cs) ∧
    (∀ fs off fuel (cs : List Value) xs, s.fits P (.inr (fs, off)) = true → Each enc P w fuel cs fs xs → cs.length = off + s.size →
      (∀ n ∈ DataW.weightsEach P (fs.map (·.type)) (xs.map (·.1)), n ≤ reachBytes) → s.rd w (cs.drop off)) := by
  induction s with
  | int k =>
    refine ⟨fun t fuel cs x hf h _ => ?_, fun fs off fuel cs xs hf => by simp [Sh.fits] at hf⟩
    obtain ⟨n, rfl, _, hw⟩ := DataW.trod_int (und_int hf) h
    exact ⟨n, rfl, hw⟩
  | bool =>
    refine ⟨fun t fuel cs x hf h _ => ?_, fun fs off fuel cs xs hf => by simp [Sh.fits] at hf⟩
    obtain ⟨n, rfl, _⟩ := DataW.trod_bool (und_bool hf) h
    exact ⟨n, rfl⟩
  | str =>
    refine ⟨fun t fuel cs x hf h hz => ?_, fun fs off fuel cs xs hf => by simp [Sh.fits] at hf⟩
    obtain ⟨s, rfl, rfl, _⟩ := DataW.trod_string (und_str hf) h
    refine ⟨s, rfl, ?_⟩
    have := hz s.data.toList.length (by simp [DataW.weights])
    rw [Array.length_toList] at this
    exact this
  | sl e sz bytes ih =>
    refine ⟨fun t fuel cs x hf h hz => ?_, fun fs off fuel cs xs hf => by simp [Sh.fits] at hf⟩
    obtain ⟨e', hu, hfe, rfl, rfl⟩ := und_sl hf
    rcases Deep.open_slice hu h with ⟨rfl, _⟩ | ⟨a, len, cap, m, n, D, Pl, rfl, _, hl, _, hm, rfl, hx⟩
    · exact ⟨none, 0, 0, rfl, Nat.le_refl _, by omega, fun h0 => absurd h0 (by omega)⟩
    · simp only [if_true] at hm
      subst hm
      have hw : ∀ n ∈ (m * P.bytesOf e' :: (DataW.weightsAll P e' ((List.range len).map D) ++ DataW.weightsAll P e' ((List.range (m - len)).map fun j => D (len + j)))), n ≤ reachBytes := by
        intro n hn
        refine hz n ?_
        simp only [DataW.weights, hu]
        simpa [show len + (m - len) = m by omega] using hn
      refine ⟨some a, len, m, rfl, hl, hw _ (by simp), fun _ => ⟨a, rfl, fun i hi => ?_⟩⟩
      obtain ⟨c, hc1, hc2⟩ := hx i (by omega)
      obtain ⟨_, hlen, hcell⟩ := World.cells?_some hc1
      refine ⟨c, hlen, hcell, ih.1 e' n c (D i, Pl i) hfe hc2 fun q hq => hw q ?_⟩
      exact List.mem_cons_of_mem _ (List.mem_append_left _ (weightsAll_mem (List.mem_map.2 ⟨i, by simpa using hi, rfl⟩) q hq))
  | st s ih =>
    refine ⟨fun t fuel cs x hf h hz => ?_, fun fs off fuel cs xs hf => by simp [Sh.fits] at hf⟩
    obtain ⟨fs, hu, hfs, hc⟩ := und_st hf
    obtain ⟨xs, n, rfl, rfl, hlen, hxl, hx⟩ := DataW.trod_struct hu h
    have := ih.2 fs.toList 0 n cs xs hfs ⟨by simpa using hxl, fun i f hi => hx i f (by simpa using hi)⟩ (by omega) (fun q hq => hz q (by simpa [DataW.weights, hu] using hq))
    simpa [Sh.rd] using this
  | nil =>
    refine ⟨fun t fuel cs x hf => by simp [Sh.fits] at hf, fun fs off fuel cs xs hf h hl _ => ?_⟩
    simp only [Sh.size, Nat.add_zero] at hl
    simp [Sh.rd, hl]
  | cons a r iha ihr =>
    refine ⟨fun t fuel cs x hf => by simp [Sh.fits] at hf, fun fs off fuel cs xs hf h hl hz => ?_⟩
    cases fs with
    | nil => simp [Sh.fits] at hf
    | cons f fs =>
      simp only [Sh.fits, Bool.and_eq_true, beq_iff_eq] at hf
      obtain ⟨⟨⟨ha, ho⟩, hs⟩, hr⟩ := hf
      obtain ⟨hxl, hx⟩ := h
      cases xs with
      | nil => simp at hxl
      | cons x0 xs =>
        have h0 := hx 0 f rfl
        simp only [List.getElem?_cons_zero] at h0
        simp only [Sh.size] at hl
        refine ⟨(cs.drop off).take a.size, (cs.drop off).drop a.size, (List.take_append_drop _ _).symm, ?_, ?_⟩
        · rw [ho, hs] at h0
          exact iha.1 f.type fuel _ x0 ha h0 fun q hq => hz q (by simp [DataW.weightsEach]; exact Or.inl hq)
        · rw [List.drop_drop]
          exact ihr.2 fs (off + a.size) fuel cs xs hr ⟨by simpa using hxl, fun i g hi => by have := hx (i + 1) g (by simpa using hi); simpa using this⟩ (by omega) fun q hq => hz q (by simp [DataW.weightsEach]; exact Or.inr (by simpa using hq))
end

theorem choose_list {α : Type} {n : Nat} {p : Nat → α → Prop} (h : ∀ i, i < n → ∃ x, p i x) : ∃ L : List α, L.length = n ∧ ∀ i (hi : i < L.length), p i L[i] := by
  induction n with
  | zero => exact ⟨[], rfl, fun i hi => absurd hi (by simp)⟩
  | succ n ih =>
    obtain ⟨L, hl, hL⟩ := ih fun i hi => h i (by omega)
    obtain ⟨x, hx⟩ := h n (by omega)
    refine ⟨L ++ [x], by simp [hl], fun i hi => ?_⟩
    by_cases hin : i < L.length
    · rw [List.getElem_append_left hin]; exact hL i hin
    · have : i = n := by simp at hi; omega
      subst this
      rw [List.getElem_append_right (by omega)]
      simpa [hl] using hx
/-- a slice that came in: its elements' cells, one by one -/
theorem rd_slice {w : World} {e : Sh} {sz bytes : Nat} {cs : List Value} (h : Sh.rd w (.sl e sz bytes) cs) (hsz : 0 < sz) :
    ∃ A len cap, cs = [.slice A len cap] ∧ len ≤ cap ∧ cap * bytes ≤ 140737488351232 ∧ (0 < len → ∃ b off, A = some ⟨b, off, none⟩ ∧ ∀ i, i < len → ∃ c, c.length = sz ∧ (∀ j, j < sz → w.cell? ⟨b, off + i * sz + j, none⟩ = c[j]?) ∧ Sh.rd w e c) := by
  obtain ⟨A, len, cap, rfl, hl, hc, hr⟩ := h
  refine ⟨A, len, cap, rfl, hl, hc, fun h0 => ?_⟩
  obtain ⟨a, rfl, hx⟩ := hr h0
  obtain ⟨b, off, spot⟩ := a
  have hspot : spot = none := by
    obtain ⟨c, hcl, hcell, _⟩ := hx 0 h0
    have := hcell 0 hsz
    rw [List.getElem?_eq_getElem (by omega)] at this
    simpa [Addr.add] using World.cell?_spot this
  subst hspot
  refine ⟨b, off, rfl, fun i hi => ?_⟩
  obtain ⟨c, hcl, hcell, hrd⟩ := hx i hi
  refine ⟨c, hcl, fun j hj => ?_, hrd⟩
  have := hcell j hj
  have e : (Addr.add (Addr.add ⟨b, off, none⟩ (i * sz)) j) = ⟨b, off + i * sz + j, none⟩ := by
    unfold Addr.add
    by_cases h1 : i * sz = 0 <;> by_cases h2 : j = 0 <;> simp [h1, h2]
  rwa [e] at this
theorem rd_ints {w : World} {cs : List Value} (h : Sh.rd w (.sl (.int .i64) 1 8) cs) : ∃ v l, cs = [v] ∧ RdI w v l ∧ l.length * 8 ≤ 140737488351232 ∧ ∀ x ∈ l, -9223372036854775808 ≤ x ∧ x ≤ 9223372036854775807 := by
  obtain ⟨A, len, cap, rfl, hl, hc, hr⟩ := rd_slice h (by omega)
  have hx : ∀ i, i < len → ∃ x : Int, (-9223372036854775808 ≤ x ∧ x ≤ 9223372036854775807) ∧ ∀ b off, A = some ⟨b, off, none⟩ → w.cell? ⟨b, off + i * 1, none⟩ = some (.int .i64 x) := by
    intro i hi
    obtain ⟨b, off, rfl, hr2⟩ := hr (by omega)
    obtain ⟨c, _, hcell, n, rfl, hw⟩ := hr2 i hi
    refine ⟨n, bounds_i64 hw, fun b' off' e => ?_⟩
    cases e
    simpa using hcell 0 (by omega)
  obtain ⟨l, hll, hl2⟩ := choose_list hx
  subst hll
  refine ⟨_, l, rfl, ⟨A, cap, rfl, hl, fun h0 => ?_⟩, by omega, fun x hx => ?_⟩
  · obtain ⟨b, off, rfl, _⟩ := hr h0
    refine ⟨b, off, rfl, fun i hi j hj => ?_⟩
    obtain rfl : j = 0 := by omega
    rw [Nat.add_zero, (hl2 i hi).2 b off rfl]
    simp [hi]
  · obtain ⟨i, hi, rfl⟩ := List.getElem_of_mem hx
    exact (hl2 i hi).1
end Go.Proofs.YtbjckahaalbpaaaDoor
