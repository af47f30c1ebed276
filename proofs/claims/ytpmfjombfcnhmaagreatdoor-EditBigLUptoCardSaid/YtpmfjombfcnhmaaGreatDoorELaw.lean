/- Edits of rows and grids, as lists: the program's ways and the reference's come to the same. -/
import Derived.Test.YtpmfjombfcnhmaaGreatDoorRow2
import Derived.Test.YtpmfjombfcnhmaaGreatDoorMay
set_option linter.unusedVariables false
set_option linter.unusedSimpArgs false
set_option linter.unnecessarySimpa false
namespace Go.Proofs.YtpmfjombfcnhmaaGreatDoor
open Go Go.RowKit

theorem at_out {L : List Cell} {i : Nat} (h : L.length ≤ i) : at_ L i = zc := by
  simp [at_, List.getD_eq_getElem?_getD, List.getElem?_eq_none h]
theorem at_app_l {L M : List Cell} {i : Nat} (h : i < L.length) : at_ (L ++ M) i = at_ L i := by
  simp only [at_, List.getD_eq_getElem?_getD]; rw [List.getElem?_append_left h]
theorem at_app_r {L M : List Cell} {i : Nat} (h : L.length ≤ i) : at_ (L ++ M) i = at_ M (i - L.length) := by
  simp only [at_, List.getD_eq_getElem?_getD]; rw [List.getElem?_append_right h]
theorem at_take {L : List Cell} {n i : Nat} (h : i < n) : at_ (L.take n) i = at_ L i := by
  simp only [at_, List.getD_eq_getElem?_getD]; rw [List.getElem?_take, if_pos h]
theorem at_drop {L : List Cell} {n i : Nat} : at_ (L.drop n) i = at_ L (n + i) := by
  simp only [at_, List.getD_eq_getElem?_getD]; rw [List.getElem?_drop]
theorem at_onSub {o n : Nat} {f : List Cell → List Cell} {M : List Cell} {j : Nat} (hj : j < M.length) : at_ (onSub o n f M) j = if o ≤ j ∧ j < o + n then at_ (f (sub o n M)) (j - o) else at_ M j := at_tab hj
theorem sub_onSub {o n : Nat} {f : List Cell → List Cell} {M : List Cell} (h : o + n ≤ M.length) (hf : (f (sub o n M)).length = n) : sub o n (onSub o n f M) = f (sub o n M) := by
  apply ext_at
  · rw [sub_length, hf]
  · intro i hi
    rw [sub_length] at hi
    rw [sub_at hi, at_onSub (by omega), if_pos (by omega), show o + i - o = i by omega]
theorem onSub_comp {o n : Nat} {f g : List Cell → List Cell} {M : List Cell} (h : o + n ≤ M.length) (hf : (f (sub o n M)).length = n) : onSub o n g (onSub o n f M) = onSub o n (fun x => g (f x)) M := by
  apply ext_at
  · simp
  · intro j hj
    simp only [onSub_length] at hj
    rw [at_onSub (by simpa using hj), sub_onSub h hf, at_onSub hj, at_onSub hj]
    by_cases h1 : o ≤ j ∧ j < o + n
    · rw [if_pos h1, if_pos h1]
    · rw [if_neg h1, if_neg h1, if_neg h1]
theorem sub_sub {o n p k : Nat} {M : List Cell} (h : p + k ≤ n) : sub p k (sub o n M) = sub (o + p) k M := by
  apply ext_at
  · simp
  · intro i hi
    rw [sub_length] at hi
    rw [sub_at hi, sub_at (by omega), sub_at hi, Nat.add_assoc]
theorem onSub_in {o n p k : Nat} {f : List Cell → List Cell} {M : List Cell} (h : p + k ≤ n) (hn : o + n ≤ M.length) : onSub (o + p) k f M = onSub o n (onSub p k f) M := by
  apply ext_at
  · simp
  · intro j hj
    simp only [onSub_length] at hj
    rw [at_onSub hj, at_onSub hj]
    by_cases h1 : o ≤ j ∧ j < o + n
    · rw [if_pos h1, at_onSub (by rw [sub_length]; omega), sub_sub h, sub_at (by omega), show o + (j - o) = j by omega]
      by_cases h2 : o + p ≤ j ∧ j < o + p + k
      · rw [if_pos h2, if_pos (by omega), show j - (o + p) = j - o - p by omega]
      · rw [if_neg h2, if_neg (by omega)]
    · rw [if_neg h1, if_neg (by omega)]
theorem onSub_congr {o n : Nat} {f g : List Cell → List Cell} {M : List Cell} (h : f (sub o n M) = g (sub o n M)) : onSub o n f M = onSub o n g M := by
  unfold onSub
  rw [h]
@[simp] theorem fillL_length (a : Attr) (L : List Cell) : (fillL a L).length = L.length := by simp [fillL]
theorem at_fillL {a : Attr} {L : List Cell} {i : Nat} (h : i < L.length) : at_ (fillL a L) i = bare a := at_tab h

/-- cells made blank -/
def wipeL (low high : Nat) (a : Attr) (L : List Cell) : List Cell := if low < high then onSub low (high - low) (fillL a) (cutL high (cutL low L)) else L
@[simp] theorem wipeL_length (low high : Nat) (a : Attr) (L : List Cell) : (wipeL low high a L).length = L.length := by unfold wipeL; split <;> simp
/-- a part copied over another one: copy(l[d:], l[s:]) -/
def copyL (d s : Nat) (L : List Cell) : List Cell := tab L.length fun j => if d ≤ j ∧ j < d + min (L.length - d) (L.length - s) then at_ L (s + (j - d)) else at_ L j
@[simp] theorem copyL_length (d s : Nat) (L : List Cell) : (copyL d s L).length = L.length := by simp [copyL]
theorem at_copyL {d s j : Nat} {L : List Cell} (h : j < L.length) : at_ (copyL d s L) j = if d ≤ j ∧ j < d + min (L.length - d) (L.length - s) then at_ L (s + (j - d)) else at_ L j := at_tab h
/-- blanks put in, cells taken away -/
def openL (p k : Nat) (a : Attr) (L : List Cell) : List Cell := onSub p k (fillL a) (copyL (p + k) p (cutL ((L.length - k : Nat) : Int) (cutL p L)))
def shutL (p k : Nat) (a : Attr) (L : List Cell) : List Cell := onSub (L.length - k) k (fillL a) (copyL p (p + k) (cutL ((p + k : Nat) : Int) (cutL p L)))
@[simp] theorem openL_length (p k : Nat) (a : Attr) (L : List Cell) : (openL p k a L).length = L.length := by simp [openL]
@[simp] theorem shutL_length (p k : Nat) (a : Attr) (L : List Cell) : (shutL p k a L).length = L.length := by simp [shutL]
/-- rows of cells moved up, down -/
def upL (k : Nat) (a : Attr) (L : List Cell) : List Cell := onSub (L.length - k) k (fillL a) (copyL 0 k L)
def downL (k : Nat) (a : Attr) (L : List Cell) : List Cell := onSub 0 k (fillL a) (copyL k 0 L)
@[simp] theorem upL_length (k : Nat) (a : Attr) (L : List Cell) : (upL k a L).length = L.length := by simp [upL]
@[simp] theorem downL_length (k : Nat) (a : Attr) (L : List Cell) : (downL k a L).length = L.length := by simp [downL]
/-- a row but for whether its last cell is a first half -/
def rowE (L : List Cell) : Prop := ∀ i, i < L.length → ((at_ L i).wd = 1 → i + 1 < L.length → (at_ L (i + 1)).wd = 2) ∧ ((at_ L i).wd = 2 → 0 < i ∧ (at_ L (i - 1)).wd = 1)
/-- a first half at the end made blank -/
def endL (L : List Cell) : List Cell := tab L.length fun j => if j + 1 = L.length ∧ (at_ L j).wd = 1 then bare (at_ L j).a else at_ L j
@[simp] theorem endL_length (L : List Cell) : (endL L).length = L.length := by simp [endL]
theorem at_endL {L : List Cell} {j : Nat} (h : j < L.length) : at_ (endL L) j = if j + 1 = L.length ∧ (at_ L j).wd = 1 then bare (at_ L j).a else at_ L j := at_tab h
theorem rowE_of {L : List Cell} (h : rowOk L) : rowE L := fun i hi => ⟨fun h1 _ => ((h.2.2 i hi).2.1 h1).2.1, (h.2.2 i hi).2.2⟩
theorem at_cut (p : Nat) {L : List Cell} {j : Nat} (hj : j < L.length) : at_ (cutL p L) j = if 0 < p ∧ p < L.length ∧ (at_ L p).wd = 2 ∧ (j + 1 = p ∨ j = p) then bare (at_ L j).a else at_ L j := by
  unfold cutL
  rw [Int.toNat_natCast]
  by_cases h : 0 < p ∧ p < L.length ∧ (at_ L p).wd = 2
  · rw [if_pos ⟨by omega, by omega, h.2.2⟩, at_tab hj]
    by_cases h2 : j + 1 = p ∨ j = p
    · rw [if_pos h2, if_pos ⟨h.1, h.2.1, h.2.2, h2⟩]
    · rw [if_neg h2, if_neg (fun h3 => h2 h3.2.2.2)]
  · rw [if_neg (fun h3 => h ⟨by omega, by omega, h3.2.2⟩), if_neg (fun h3 => h ⟨h3.1, h3.2.1, h3.2.2.1⟩)]
theorem bare_wd (a : Attr) : (bare a).wd = 0 := rfl
theorem bare_ne1 (a : Attr) : (bare a).wd ≠ 1 := by rw [bare_wd]; decide
theorem bare_ne2 (a : Attr) : (bare a).wd ≠ 2 := by rw [bare_wd]; decide
/-- a parted row -/
theorem rowE_cut {L : List Cell} (h : rowE L) (p : Nat) : rowE (cutL p L) ∧ (p < L.length → 0 < p → (at_ (cutL p L) p).wd ≠ 2 ∧ (at_ (cutL p L) (p - 1)).wd ≠ 1) := by
  by_cases hc : 0 < p ∧ p < L.length ∧ (at_ L p).wd = 2
  · refine ⟨fun i hi => ?_, fun h1 h2 => ?_⟩
    · rw [cutL_length] at hi ⊢
      obtain ⟨a, b⟩ := h i hi
      rw [at_cut p hi]
      by_cases h1 : i + 1 = p ∨ i = p
      · rw [if_pos ⟨hc.1, hc.2.1, hc.2.2, h1⟩, bare_wd]
        exact ⟨fun e => absurd e (by decide), fun e => absurd e (by decide)⟩
      · rw [if_neg (fun hx => h1 hx.2.2.2)]
        refine ⟨fun e hlt => ?_, fun e => ?_⟩
        · rw [at_cut p hlt]
          by_cases h2 : i + 1 + 1 = p ∨ i + 1 = p
          · have h3 : i + 1 + 1 = p := by omega
            exfalso
            have := a e hlt
            have h4 := (h p hc.2.1).2 hc.2.2
            rw [show p - 1 = i + 1 by omega] at h4
            omega
          · rw [if_neg (fun hx => h2 hx.2.2.2)]
            exact a e hlt
        · obtain ⟨h2, h3⟩ := b e
          refine ⟨h2, ?_⟩
          rw [at_cut p (by omega)]
          by_cases h4 : i - 1 + 1 = p ∨ i - 1 = p
          · exfalso
            have : i - 1 = p := by omega
            rw [this] at h3
            omega
          · rw [if_neg (fun hx => h4 hx.2.2.2)]; exact h3
    · rw [at_cut p h1, if_pos ⟨h2, h1, hc.2.2, .inr rfl⟩, at_cut p (by omega), if_pos ⟨h2, h1, hc.2.2, .inl (by omega)⟩]
      exact ⟨bare_ne2 _, bare_ne1 _⟩
  · have e : cutL p L = L := by
      apply ext_at
      · simp
      · intro i hi
        rw [cutL_length] at hi
        rw [at_cut p hi, if_neg (fun hx => hc ⟨hx.1, hx.2.1, hx.2.2.1⟩)]
    rw [e]
    refine ⟨h, fun h1 h2 => ?_⟩
    have h3 : (at_ L p).wd ≠ 2 := fun e => hc ⟨h2, h1, e⟩
    refine ⟨h3, fun e2 => h3 ?_⟩
    have := (h (p - 1) (by omega)).1 e2 (by omega)
    rwa [show p - 1 + 1 = p by omega] at this
/-- what the reference puts together -/
def insY (p k : Nat) (a : Attr) (L : List Cell) : List Cell := (cutL p L).take p ++ tab k (fun _ => bare a) ++ ((cutL p L).drop p).take (L.length - k - p)
def delY (p k : Nat) (a : Attr) (L : List Cell) : List Cell := (cutL ((p + k : Nat) : Int) (cutL p L)).take p ++ (cutL ((p + k : Nat) : Int) (cutL p L)).drop (p + k) ++ tab k (fun _ => bare a)
theorem insY_length {p k : Nat} {a : Attr} {L : List Cell} (h : p + k ≤ L.length) : (insY p k a L).length = L.length := by
  simp [insY]; omega
theorem delY_length {p k : Nat} {a : Attr} {L : List Cell} (h : p + k ≤ L.length) : (delY p k a L).length = L.length := by
  simp [delY]; omega
theorem at_insY {p k j : Nat} {a : Attr} {L : List Cell} (h : p + k ≤ L.length) (hj : j < L.length) : at_ (insY p k a L) j = if j < p then at_ (cutL p L) j else if j < p + k then bare a else at_ (cutL p L) (j - k) := by
  have h1 : ((cutL (p : Int) L).take p).length = p := by simp; omega
  unfold insY
  by_cases h2 : j < p
  · rw [if_pos h2, List.append_assoc, at_app_l (by omega), at_take h2]
  · rw [if_neg h2]
    by_cases h3 : j < p + k
    · rw [if_pos h3, at_app_l (by rw [List.length_append, h1, tab_length]; omega), at_app_r (by omega), at_tab (by omega)]
    · rw [if_neg h3, at_app_r (by rw [List.length_append, h1, tab_length]; omega), List.length_append, h1, tab_length, at_take (by omega), at_drop, show p + (j - (p + k)) = j - k by omega]
theorem at_delY {p k j : Nat} {a : Attr} {L : List Cell} (h : p + k ≤ L.length) (hj : j < L.length) : at_ (delY p k a L) j = if j < p then at_ (cutL ((p + k : Nat) : Int) (cutL p L)) j else if j < L.length - k then at_ (cutL ((p + k : Nat) : Int) (cutL p L)) (j + k) else bare a := by
  have h1 : ((cutL ((p + k : Nat) : Int) (cutL (p : Int) L)).take p).length = p := by simp; omega
  have h4 : ((cutL ((p + k : Nat) : Int) (cutL (p : Int) L)).drop (p + k)).length = L.length - (p + k) := by simp
  unfold delY
  by_cases h2 : j < p
  · rw [if_pos h2, List.append_assoc, at_app_l (by omega), at_take h2]
  · rw [if_neg h2]
    by_cases h3 : j < L.length - k
    · rw [if_pos h3, at_app_l (by rw [List.length_append, h1, h4]; omega), at_app_r (by omega), h1, at_drop, show p + k + (j - p) = j + k by omega]
    · rw [if_neg h3, at_app_r (by rw [List.length_append, h1, h4]; omega), List.length_append, h1, h4, at_tab (by omega)]
theorem rowE_insY {p k : Nat} {a : Attr} {L : List Cell} (h : p + k ≤ L.length) (hk : 0 < k) (hL : rowE L) : rowE (insY p k a L) := by
  obtain ⟨hX, hp⟩ := rowE_cut hL p
  intro i hi
  rw [insY_length h] at hi ⊢
  rw [at_insY h hi]
  by_cases h1 : i < p
  · rw [if_pos h1]
    obtain ⟨c, d⟩ := hX i (by simpa using hi)
    rw [cutL_length] at c
    refine ⟨fun e hlt => ?_, fun e => ?_⟩
    · have h2 : i + 1 ≠ p := fun e2 => (hp (by omega) (by omega)).2 (by rw [show p - 1 = i by omega]; exact e)
      rw [at_insY h hlt, if_pos (by omega)]
      exact c e hlt
    · obtain ⟨h2, h3⟩ := d e
      exact ⟨h2, by rw [at_insY h (by omega), if_pos (by omega)]; exact h3⟩
  · rw [if_neg h1]
    by_cases h2 : i < p + k
    · rw [if_pos h2, bare_wd]
      exact ⟨fun e => absurd e (by decide), fun e => absurd e (by decide)⟩
    · rw [if_neg h2]
      obtain ⟨c, d⟩ := hX (i - k) (by simp; omega)
      rw [cutL_length] at c
      refine ⟨fun e hlt => ?_, fun e => ?_⟩
      · rw [at_insY h hlt, if_neg (by omega), if_neg (by omega), show i + 1 - k = i - k + 1 by omega]
        exact c e (by omega)
      · obtain ⟨h3, h4⟩ := d e
        have h5 : i - k ≠ p := fun e2 => by
          rw [e2] at e h3
          exact (hp (by omega) h3).1 e
        refine ⟨by omega, ?_⟩
        rw [at_insY h (by omega), if_neg (by omega), if_neg (by omega), show i - 1 - k = i - k - 1 by omega]
        exact h4
theorem rowE_delY {p k : Nat} {a : Attr} {L : List Cell} (h : p + k ≤ L.length) (hk : 0 < k) (hp0 : p < L.length) (hL : rowE L) (hlast : (at_ L (L.length - 1)).wd ≠ 1) : rowE (delY p k a L) ∧ (at_ (delY p k a L) (L.length - 1)).wd ≠ 1 := by
  obtain ⟨hX, hp⟩ := rowE_cut hL p
  obtain ⟨hY, hq⟩ := rowE_cut hX (p + k)
  have hpp : 0 < p → (at_ (cutL ((p + k : Nat) : Int) (cutL p L)) (p - 1)).wd ≠ 1 := fun h0 => by
    rw [at_cut _ (by simp; omega)]
    split
    · exact bare_ne1 _
    · exact (hp (by omega) h0).2
  have hql : p + k < L.length → (at_ (cutL ((p + k : Nat) : Int) (cutL p L)) (L.length - 1)).wd ≠ 1 := fun h0 => by
    rw [at_cut _ (by simp; omega)]
    split
    · exact bare_ne1 _
    · rw [at_cut _ (by omega)]
      split
      · exact bare_ne1 _
      · exact hlast
  refine ⟨fun i hi => ?_, ?_⟩
  · rw [delY_length h] at hi ⊢
    rw [at_delY h hi]
    by_cases h1 : i < p
    · rw [if_pos h1]
      obtain ⟨c, d⟩ := hY i (by simpa using hi)
      simp only [cutL_length] at c
      refine ⟨fun e hlt => ?_, fun e => ?_⟩
      · have h2 : i + 1 ≠ p := fun e2 => hpp (by omega) (by rw [show p - 1 = i by omega]; exact e)
        rw [at_delY h hlt, if_pos (by omega)]
        exact c e hlt
      · obtain ⟨h2, h3⟩ := d e
        exact ⟨h2, by rw [at_delY h (by omega), if_pos (by omega)]; exact h3⟩
    · rw [if_neg h1]
      by_cases h2 : i < L.length - k
      · rw [if_pos h2]
        obtain ⟨c, d⟩ := hY (i + k) (by simp; omega)
        simp only [cutL_length] at c
        refine ⟨fun e hlt => ?_, fun e => ?_⟩
        · have h3 : i + k ≠ L.length - 1 := fun e2 => hql (by omega) (by rw [← e2]; exact e)
          rw [at_delY h hlt, if_neg (by omega), if_pos (by omega), show i + 1 + k = i + k + 1 by omega]
          exact c e (by omega)
        · obtain ⟨h3, h4⟩ := d e
          have h5 : i ≠ p := fun e2 => by
            subst e2
            exact (hq (by simp; omega) (by omega)).1 e
          refine ⟨by omega, ?_⟩
          rw [at_delY h (by omega), if_neg (by omega), if_pos (by omega), show i - 1 + k = i + k - 1 by omega]
          exact h4
      · rw [if_neg h2, bare_wd]
        exact ⟨fun e => absurd e (by decide), fun e => absurd e (by decide)⟩
  · rw [at_delY h (by omega), if_neg (by omega), if_neg (by omega)]
    exact bare_ne1 _
theorem at_openL {p k j : Nat} {a : Attr} {L : List Cell} (h : p + k ≤ L.length) (hj : j < L.length) : at_ (openL p k a L) j = if j < p then at_ (cutL ((L.length - k : Nat) : Int) (cutL p L)) j else if j < p + k then bare a else at_ (cutL ((L.length - k : Nat) : Int) (cutL p L)) (j - k) := by
  rw [openL, at_onSub (by simpa using hj)]
  by_cases h1 : p ≤ j ∧ j < p + k
  · rw [if_pos h1, at_fillL (by rw [sub_length]; omega), if_neg (by omega), if_pos (by omega)]
  · rw [if_neg h1, at_copyL (by simpa using hj)]
    simp only [cutL_length]
    by_cases h2 : j < p
    · rw [if_neg (by omega), if_pos h2]
    · rw [if_pos (by omega), if_neg h2, if_neg (by omega), show p + (j - (p + k)) = j - k by omega]
/-- blanks put in: the same -/
theorem open_same {p k : Nat} {a : Attr} {L : List Cell} (h : p + k ≤ L.length) (hk : 0 < k) (hL : rowE L) : openL p k a L = endL (insY p k a L) := by
  obtain ⟨hX, hp⟩ := rowE_cut hL p
  have hXl : (cutL (p : Int) L).length = L.length := by simp
  apply ext_at
  · rw [openL_length, endL_length, insY_length h]
  · intro j hj
    rw [openL_length] at hj
    rw [at_endL (by rw [insY_length h]; exact hj), insY_length h, at_insY h hj, at_openL h hj]
    by_cases h2 : j < p
    · simp only [if_pos h2]
      have h3 : j + 1 ≠ L.length := by omega
      have hr : ¬ (j + 1 = L.length ∧ (at_ (cutL (p : Int) L) j).wd = 1) := fun e => h3 e.1
      rw [if_neg hr, at_cut _ (by omega), hXl, if_neg]
      rintro ⟨h5, h6, h7, h8⟩
      have h9 : L.length - k = p := by omega
      rw [h9] at h7
      exact (hp (by omega) (by omega)).1 h7
    · simp only [if_neg h2]
      by_cases h3 : j < p + k
      · simp only [if_pos h3]
        have hr : ¬ (j + 1 = L.length ∧ (bare a).wd = 1) := fun e => absurd e.2 (bare_ne1 _)
        rw [if_neg hr]
      · simp only [if_neg h3]
        rw [at_cut _ (by omega), hXl]
        by_cases h4 : j + 1 = L.length
        · have e2 : j - k + 1 = L.length - k := by omega
          by_cases h5 : (at_ (cutL (p : Int) L) (j - k)).wd = 1
          · have h6 := (hX (j - k) (by omega)).1 h5 (by omega)
            rw [e2] at h6
            have hl : 0 < L.length - k ∧ L.length - k < L.length ∧ (at_ (cutL (p : Int) L) (L.length - k)).wd = 2 ∧ (j - k + 1 = L.length - k ∨ j - k = L.length - k) := ⟨by omega, by omega, h6, .inl e2⟩
            have hr : j + 1 = L.length ∧ (at_ (cutL (p : Int) L) (j - k)).wd = 1 := ⟨h4, h5⟩
            rw [if_pos hl, if_pos hr]
          · have hr : ¬ (j + 1 = L.length ∧ (at_ (cutL (p : Int) L) (j - k)).wd = 1) := fun e => h5 e.2
            rw [if_neg hr, if_neg]
            rintro ⟨h6, h7, h8, h9⟩
            have := ((hX (L.length - k) (by omega)).2 h8).2
            rw [show L.length - k - 1 = j - k by omega] at this
            exact h5 this
        · have hr : ¬ (j + 1 = L.length ∧ (at_ (cutL (p : Int) L) (j - k)).wd = 1) := fun e => h4 e.1
          rw [if_neg hr, if_neg]
          rintro ⟨h6, h7, h8, h9⟩
          omega
/-- cells taken away: the same -/
theorem shut_same {p k : Nat} {a : Attr} {L : List Cell} (h : p + k ≤ L.length) (hk : 0 < k) (hp0 : p < L.length) (hL : rowE L) (hlast : (at_ L (L.length - 1)).wd ≠ 1) : shutL p k a L = endL (delY p k a L) := by
  have hE := (rowE_delY (a := a) h hk hp0 hL hlast).2
  have e : endL (delY p k a L) = delY p k a L := by
    apply ext_at
    · simp
    · intro j hj
      rw [endL_length] at hj
      rw [at_endL hj, if_neg]
      rintro ⟨h1, h2⟩
      rw [delY_length h] at h1
      rw [show j = L.length - 1 by omega] at h2
      exact hE h2
  rw [e]
  apply ext_at
  · rw [shutL_length, delY_length h]
  · intro j hj
    rw [shutL_length] at hj
    rw [at_delY h hj, shutL, at_onSub (by simpa using hj)]
    by_cases h1 : L.length - k ≤ j ∧ j < L.length - k + k
    · rw [if_pos h1, at_fillL (by rw [sub_length]; omega), if_neg (by omega), if_neg (by omega)]
    · rw [if_neg h1, at_copyL (by simpa using hj)]
      simp only [cutL_length]
      by_cases h2 : j < p
      · rw [if_neg (by omega), if_pos h2]
      · rw [if_pos (by omega), if_neg h2, if_pos (by omega), show p + k + (j - p) = j + k by omega]
end Go.Proofs.YtpmfjombfcnhmaaGreatDoor
