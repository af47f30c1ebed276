/- Cells: how a list of cells lies in memory: readable, owned, a block of them that is written in place. -/
import Derived.Test.YtpmfjombfcnhmaaGreatDoorNum
set_option linter.unusedVariables false
set_option linter.unusedSimpArgs false
namespace Go.Proofs.YtpmfjombfcnhmaaGreatDoor
open Go Go.RowKit

structure Attr where
  (fg bg fl : Int)
  deriving DecidableEq
structure Cell where
  (rn : Int) (cb : ByteArray) (wd : Int) (a : Attr)
  deriving DecidableEq
def zc : Cell := ⟨0, ⟨#[]⟩, 0, ⟨0, 0, 0⟩⟩
def cellV (c : Cell) : Nat → Value
  | 0 => .int .i64 c.rn | 1 => .string c.cb | 2 => .int .i64 c.wd | 3 => .int .i64 c.a.fg | 4 => .int .i64 c.a.bg | _ => .int .i64 c.a.fl
def Attr.agg (a : Attr) : Value := .agg #[.int .i64 a.fg, .int .i64 a.bg, .int .i64 a.fl]
def Cell.agg (c : Cell) : Value := .agg #[.int .i64 c.rn, .string c.cb, .int .i64 c.wd, .int .i64 c.a.fg, .int .i64 c.a.bg, .int .i64 c.a.fl]
def at_ (L : List Cell) (i : Nat) : Cell := L.getD i zc
theorem at_tab {n : Nat} {f : Nat → Cell} {i : Nat} (h : i < n) : at_ (tab n f) i = f i := tab_getD _ _ _ _ h
theorem at_set_same {L : List Cell} {i : Nat} (h : i < L.length) (c : Cell) : at_ (L.set i c) i = c := by simp [at_, h]
theorem at_set_ne {L : List Cell} {i j : Nat} (h : i ≠ j) (c : Cell) : at_ (L.set i c) j = at_ L j := by
  simp only [at_, List.getD_eq_getElem?_getD]; rw [List.getElem?_set_ne h]
theorem ext_at {L M : List Cell} (hl : L.length = M.length) (h : ∀ i, i < L.length → at_ L i = at_ M i) : L = M := ext_getD zc hl h
theorem tab_at (L : List Cell) : tab L.length (at_ L) = L := tab_self L zc
theorem cellV_one (c : Cell) (j : Nat) : (cellV c j).oneCell' = true := by
  match j with
  | 0 | 1 | 2 | 3 | 4 => rfl
  | _ + 5 => rfl

/-- a readable slice of cells -/
def RdC (w : World) (v : Value) (L : List Cell) : Prop := Rows w v L.length 6 fun i j => cellV (at_ L i) j
theorem RdC.below {w w1 : World} {v : Value} {l : List Cell} (h : RdC w v l) (hb : Below w.heap.size w w1) : RdC w1 v l := Rows.below h hb
theorem RdC.nil (w : World) : RdC w (.slice none 0 0) [] := ⟨none, 0, rfl, Nat.le_refl _, fun h => absurd h (by simp)⟩
theorem RdC.open_ {w : World} {v : Value} {L : List Cell} (h : RdC w v L) : ∃ A c, v = .slice A L.length c ∧ L.length ≤ c ∧ ∀ W, Below w.heap.size w W → ∀ i, i < L.length → ∃ b off, A = some ⟨b, off, none⟩ ∧
    (W.cell? ⟨b, off + i * 6, none⟩ = some (.int .i64 (at_ L i).rn) ∧ W.cell? ⟨b, off + i * 6 + 1, none⟩ = some (.string (at_ L i).cb) ∧ W.cell? ⟨b, off + i * 6 + 2, none⟩ = some (.int .i64 (at_ L i).wd) ∧
     W.cell? ⟨b, off + i * 6 + 3, none⟩ = some (.int .i64 (at_ L i).a.fg) ∧ W.cell? ⟨b, off + i * 6 + 4, none⟩ = some (.int .i64 (at_ L i).a.bg) ∧ W.cell? ⟨b, off + i * 6 + 5, none⟩ = some (.int .i64 (at_ L i).a.fl)) := by
  obtain ⟨A, c, hv, hc, hr⟩ := h
  refine ⟨A, c, hv, hc, fun W hW i hi => ?_⟩
  obtain ⟨b, off, hA, hr⟩ := hr (by omega)
  have q := hr i hi
  exact ⟨b, off, hA, cell_below hW (by have := q 0 (by omega); rw [Nat.add_zero] at this; exact this), cell_below hW (q 1 (by omega)), cell_below hW (q 2 (by omega)), cell_below hW (q 3 (by omega)), cell_below hW (q 4 (by omega)), cell_below hW (q 5 (by omega))⟩

/-- a block of cells of the call's own: N memory cells, of which the first are those of M -/
def Blk (w : World) (b N : Nat) (M : List Cell) : Prop := ∃ f, w.rowIs b 73 N f ∧ M.length * 6 ≤ N ∧ ∀ i, i < M.length → ∀ j, j < 6 → f (i * 6 + j) = cellV (at_ M i) j
theorem Blk.lt {w : World} {b N : Nat} {M : List Cell} (h : Blk w b N M) : b < w.heap.size := h.choose_spec.1.lt
theorem Blk.free {w : World} {b N : Nat} {M : List Cell} (h : Blk w b N M) (k : Nat) : w.frozen? ⟨b, k, none⟩ = false := h.choose_spec.1.frozen k
theorem Blk.cell {w : World} {b N : Nat} {M : List Cell} (h : Blk w b N M) (i j : Nat) (hi : i < M.length) (hj : j < 6) : w.cell? ⟨b, i * 6 + j, none⟩ = some (cellV (at_ M i) j) := by
  obtain ⟨f, hr, hN, hf⟩ := h
  rw [hr.cell (by omega), hf i hi j hj]
theorem Blk.at_ {w : World} {b N : Nat} {M : List Cell} (h : Blk w b N M) {q : Nat} (i : Nat) (hi : i < M.length) (hq : q = i * 6 := by omega) :
    w.cell? ⟨b, q, none⟩ = some (.int .i64 (at_ M i).rn) ∧ w.cell? ⟨b, q + 1, none⟩ = some (.string (at_ M i).cb) ∧ w.cell? ⟨b, q + 2, none⟩ = some (.int .i64 (at_ M i).wd) ∧ w.cell? ⟨b, q + 3, none⟩ = some (.int .i64 (at_ M i).a.fg) ∧ w.cell? ⟨b, q + 4, none⟩ = some (.int .i64 (at_ M i).a.bg) ∧ w.cell? ⟨b, q + 5, none⟩ = some (.int .i64 (at_ M i).a.fl) := by
  subst hq; exact ⟨h.cell i 0 hi (by omega), h.cell i 1 hi (by omega), h.cell i 2 hi (by omega), h.cell i 3 hi (by omega), h.cell i 4 hi (by omega), h.cell i 5 hi (by omega)⟩
theorem Blk.block {w w1 : World} {b N : Nat} {M : List Cell} (h : Blk w b N M) (e : w1.heap[b]? = w.heap[b]?) : Blk w1 b N M := let ⟨f, hr, r⟩ := h; ⟨f, hr.of_block e, r⟩
theorem Blk.below {w w1 : World} {b N : Nat} {M : List Cell} (h : Blk w b N M) (hb : Below w.heap.size w w1) : Blk w1 b N M := h.block (hb.block b h.lt)
theorem Blk.grown {w w1 : World} {b N : Nat} {M : List Cell} {row : Option Nat} (h : Blk w b N M) (hg : w.grownBy w1 row) (hne : some b ≠ row) : Blk w1 b N M := h.block (hg.block b h.lt hne)
/-- one cell of memory written -/
theorem rowIs_six {w : World} {b N : Nat} {f : Nat → Value} (h : w.rowIs b 73 N f) (i : Nat) (c : Cell) :
    ((((((w.setCell ⟨b, i * 6, none⟩ (.int .i64 c.rn)).setCell ⟨b, i * 6 + 1, none⟩ (.string c.cb)).setCell ⟨b, i * 6 + 2, none⟩ (.int .i64 c.wd)).setCell ⟨b, i * 6 + 3, none⟩ (.int .i64 c.a.fg)).setCell ⟨b, i * 6 + 4, none⟩ (.int .i64 c.a.bg)).setCell ⟨b, i * 6 + 5, none⟩ (.int .i64 c.a.fl)).rowIs b 73 N
      (fun k => if i * 6 ≤ k ∧ k < i * 6 + 6 then cellV c (k - i * 6) else f k) := by
  refine ((((((h.set _ _).set _ _).set _ _).set _ _).set _ _).set _ _).congr fun k _ => ?_
  by_cases hk : i * 6 ≤ k ∧ k < i * 6 + 6
  · rw [if_pos hk]
    have : k = i * 6 ∨ k = i * 6 + 1 ∨ k = i * 6 + 2 ∨ k = i * 6 + 3 ∨ k = i * 6 + 4 ∨ k = i * 6 + 5 := by omega
    rcases this with rfl | rfl | rfl | rfl | rfl | rfl
    · rw [if_neg (by omega), if_neg (by omega), if_neg (by omega), if_neg (by omega), if_neg (by omega), if_pos rfl, Nat.sub_self]; rfl
    · rw [if_neg (by omega), if_neg (by omega), if_neg (by omega), if_neg (by omega), if_pos rfl, Nat.add_sub_cancel_left]; rfl
    · rw [if_neg (by omega), if_neg (by omega), if_neg (by omega), if_pos rfl, Nat.add_sub_cancel_left]; rfl
    · rw [if_neg (by omega), if_neg (by omega), if_pos rfl, Nat.add_sub_cancel_left]; rfl
    · rw [if_neg (by omega), if_pos rfl, Nat.add_sub_cancel_left]; rfl
    · rw [if_pos rfl, Nat.add_sub_cancel_left]; rfl
  · rw [if_neg hk, if_neg (by omega), if_neg (by omega), if_neg (by omega), if_neg (by omega), if_neg (by omega), if_neg (by omega)]
/-- a cell put in the place of one -/
theorem Blk.set6 {w : World} {b N : Nat} {M : List Cell} (h : Blk w b N M) {q : Nat} (i : Nat) (c : Cell) (hq : q = i * 6) :
    Blk ((((((w.setCell ⟨b, q, none⟩ (.int .i64 c.rn)).setCell ⟨b, q + 1, none⟩ (.string c.cb)).setCell ⟨b, q + 2, none⟩ (.int .i64 c.wd)).setCell ⟨b, q + 3, none⟩ (.int .i64 c.a.fg)).setCell ⟨b, q + 4, none⟩ (.int .i64 c.a.bg)).setCell ⟨b, q + 5, none⟩ (.int .i64 c.a.fl)) b N (M.set i c) := by
  subst hq
  obtain ⟨f, hr, hN, hf⟩ := h
  refine ⟨_, rowIs_six hr i c, by simpa using hN, fun k hk j hj => ?_⟩
  rw [List.length_set] at hk
  by_cases hki : k = i
  · subst hki
    rw [if_pos (by omega), Nat.add_sub_cancel_left]
    simp [Go.Proofs.YtpmfjombfcnhmaaGreatDoor.at_, hk]
  · rw [if_neg (by omega), hf k hk j hj]
    simp only [Go.Proofs.YtpmfjombfcnhmaaGreatDoor.at_, List.getD_eq_getElem?_getD]
    rw [List.getElem?_set_ne (by omega)]
theorem grown_set (w : World) (b q : Nat) (v : Value) : w.grownBy (w.setCell ⟨b, q, none⟩ v) (some b) :=
  ⟨rfl, rfl, rfl, by simp [World.setCell], fun k _ hk => Below.heap_setCell _ _ _ _ (by simpa using hk)⟩
theorem grown_trans {w w1 w2 : World} {row : Option Nat} (h : w.grownBy w1 row) (k : w1.grownBy w2 row) : w.grownBy w2 row :=
  ⟨k.os.trans h.os, k.tape.trans h.tape, k.output.trans h.output, Nat.le_trans h.size k.size, fun i hi hne => (k.block i (Nat.lt_of_lt_of_le hi h.size) hne).trans (h.block i hi hne)⟩
theorem grown_of_below {w w1 : World} (h : Below w.heap.size w w1) (row : Option Nat) : w.grownBy w1 row := ⟨h.os, h.tape, h.output, h.size, fun i hi _ => h.block i hi⟩

theorem grown_six (w : World) (b q : Nat) (v0 v1 v2 v3 v4 v5 : Value) : w.grownBy ((((((w.setCell ⟨b, q, none⟩ v0).setCell ⟨b, q + 1, none⟩ v1).setCell ⟨b, q + 2, none⟩ v2).setCell ⟨b, q + 3, none⟩ v3).setCell ⟨b, q + 4, none⟩ v4).setCell ⟨b, q + 5, none⟩ v5) (some b) :=
  grown_trans (grown_trans (grown_trans (grown_trans (grown_trans (grown_set _ _ _ _) (grown_set _ _ _ _)) (grown_set _ _ _ _)) (grown_set _ _ _ _)) (grown_set _ _ _ _)) (grown_set _ _ _ _)
theorem tab_set {α : Type} (n : Nat) (f : Nat → α) (i : Nat) (x : α) : (tab n f).set i x = tab n fun j => if j = i then x else f j := by
  apply List.ext_getElem
  · simp
  · intro j h1 h2
    rw [tab_get]
    by_cases h : j = i
    · subst h; simp
    · rw [if_neg h, List.getElem_set_ne (by omega), tab_get]

/-- a part of a list of cells -/
def sub (o n : Nat) (M : List Cell) : List Cell := tab n fun i => at_ M (o + i)
@[simp] theorem sub_length (o n : Nat) (M : List Cell) : (sub o n M).length = n := by simp [sub]
theorem sub_at {o n i : Nat} {M : List Cell} (h : i < n) : at_ (sub o n M) i = at_ M (o + i) := tab_getD _ _ _ _ h
theorem sub_all (M : List Cell) : sub 0 M.length M = M := by
  have := tab_at M
  simp only [sub, Nat.zero_add]; exact this
/-- a part of a list turned -/
def onSub (o n : Nat) (g : List Cell → List Cell) (M : List Cell) : List Cell := tab M.length fun i => if o ≤ i ∧ i < o + n then at_ (g (sub o n M)) (i - o) else at_ M i
@[simp] theorem onSub_length (o n : Nat) (g : List Cell → List Cell) (M : List Cell) : (onSub o n g M).length = M.length := by simp [onSub]
theorem onSub_all (g : List Cell → List Cell) (M : List Cell) (hg : (g M).length = M.length) : onSub 0 M.length g M = g M := by
  have h := tab_at (g M)
  rw [hg] at h
  rw [onSub, sub_all]
  refine Eq.trans (tab_congr fun i hi => ?_) h
  rw [if_pos (by omega)]; rfl
theorem Blk.rd {w : World} {b N : Nat} {M : List Cell} (h : Blk w b N M) (o n c : Nat) (hc : n ≤ c) (ho : o + n ≤ M.length) {q : Nat} (hq : q = o * 6) : RdC w (.slice (some ⟨b, q, none⟩) n c) (sub o n M) := by
  subst hq
  refine ⟨_, c, by rw [sub_length], by rw [sub_length]; exact hc, fun _ => ⟨b, o * 6, rfl, fun i hi j hj => ?_⟩⟩
  rw [sub_length] at hi
  show _ = some (cellV (Go.Proofs.YtpmfjombfcnhmaaGreatDoor.at_ (sub o n M) i) j)
  rw [sub_at hi, show o * 6 + i * 6 + j = (o + i) * 6 + j by omega]
  exact h.cell (o + i) j (by omega) hj

/-- the memory of a list of cells, in a row -/
def encs (L : List Cell) : List Value := tab (L.length * 6) fun k => cellV (at_ L (k / 6)) (k % 6)
@[simp] theorem encs_length (L : List Cell) : (encs L).length = L.length * 6 := by simp [encs]
theorem encs_get (L : List Cell) (k : Nat) (h : k < L.length * 6) : (encs L)[k]? = some (cellV (at_ L (k / 6)) (k % 6)) := by
  rw [List.getElem?_eq_getElem (by simpa using h)]; simp only [encs]; rw [tab_get]
theorem encs_at (L : List Cell) (i j : Nat) (hi : i < L.length) (hj : j < 6) : (encs L)[i * 6 + j]? = some (cellV (at_ L i) j) := by
  rw [encs_get L _ (by omega), show (i * 6 + j) / 6 = i by omega, show (i * 6 + j) % 6 = j by omega]
theorem encs_one (L : List Cell) : ∀ u ∈ encs L, u.oneCell' = true := by
  intro u hu
  obtain ⟨i, hi, rfl⟩ := List.getElem_of_mem hu
  simp only [encs]; rw [tab_get]; exact cellV_one _ _
theorem encs_append (L M : List Cell) : encs (L ++ M) = encs L ++ encs M := by
  apply List.ext_getElem?
  intro k
  by_cases h1 : k < L.length * 6
  · rw [List.getElem?_append_left (by simpa using h1), encs_get _ _ h1, encs_get _ _ (by simp; omega)]
    simp only [at_, List.getD_eq_getElem?_getD]
    rw [List.getElem?_append_left (by omega)]
  · rw [List.getElem?_append_right (by simp; omega)]
    by_cases h2 : k < (L.length + M.length) * 6
    · rw [encs_get _ _ (by simpa using h2), encs_length, encs_get _ _ (by omega)]
      simp only [at_, List.getD_eq_getElem?_getD]
      rw [List.getElem?_append_right (by omega), show (k - L.length * 6) / 6 = k / 6 - L.length by omega, show (k - L.length * 6) % 6 = k % 6 by omega]
    · rw [List.getElem?_eq_none (by simp; omega), List.getElem?_eq_none (by simp; omega)]
theorem encs_single (c : Cell) : encs [c] = [.int .i64 c.rn, .string c.cb, .int .i64 c.wd, .int .i64 c.a.fg, .int .i64 c.a.bg, .int .i64 c.a.fl] := by
  simp [encs, tab, List.range, List.range.loop, at_, cellV]

/-- a slice of cells in memory of the call's own, from block 'base' on -/
def OwnC (w : World) (base : Nat) (v : Value) (L : List Cell) : Prop := w.ownsRow base 73 6 v L.length (encs L)
theorem OwnC.below {w w1 : World} {base : Nat} {v : Value} {L : List Cell} (h : OwnC w base v L) (hb : Below w.heap.size w w1) : OwnC w1 base v L := own_below h hb
theorem OwnC.nil (w : World) (base : Nat) : OwnC w base (.slice none 0 0) [] := World.ownsRow_nil _ _ _ _
theorem OwnC.slice {w : World} {base : Nat} {v : Value} {L : List Cell} (h : OwnC w base v L) : ∃ A c, v = .slice A L.length c := by
  obtain ⟨_, h | ⟨g, cap, cur, rfl, _⟩⟩ := h
  · exact ⟨none, 0, by rw [h.1, h.2]⟩
  · exact ⟨_, cap, rfl⟩
theorem OwnC.blk {w : World} {base : Nat} {v : Value} {L : List Cell} (h : OwnC w base v L) (h0 : 0 < L.length) : ∃ g cap, v = .slice (some ⟨g, 0, none⟩) L.length cap ∧ base ≤ g ∧ L.length ≤ cap ∧ cap ≤ maxLen ∧ Blk w g (cap * 6) L := by
  obtain ⟨_, h | ⟨g, cap, cur, rfl, hb, hg, hn, hm, hs, ht⟩⟩ := h
  · omega
  · refine ⟨g, cap, rfl, hb, hn, hm, fun k => (cur[k]?).getD undef, ⟨cur, hg, hs, fun i hi => ?_⟩, by omega, fun i hi j hj => ?_⟩
    · show _ = some ((cur[i]?).getD undef)
      rw [Array.getElem?_eq_getElem (by omega)]; rfl
    · have : (cur.toList.take (L.length * 6))[i * 6 + j]? = (encs L)[i * 6 + j]? := by rw [ht]
      rw [List.getElem?_take, if_pos (by omega), encs_at L i j hi hj, Array.getElem?_toList] at this
      simp only [this]; rfl
theorem OwnC.of_blk {w : World} {base g cap : Nat} {L : List Cell} (h : Blk w g (cap * 6) L) (hb : base ≤ g) (hm : cap ≤ maxLen) (hl : L.length ≤ cap) : OwnC w base (.slice (some ⟨g, 0, none⟩) L.length cap) L := by
  obtain ⟨f, ⟨cur, hg, hs, hc⟩, hN, hf⟩ := h
  refine ⟨by simp, .inr ⟨g, cap, cur, rfl, hb, hg, hl, hm, hs, ?_⟩⟩
  apply List.ext_getElem?
  intro k
  by_cases hk : k < L.length * 6
  · rw [List.getElem?_take, if_pos hk, Array.getElem?_toList, hc k (by omega), encs_get L k hk]
    have := hf (k / 6) (by omega) (k % 6) (by omega)
    rw [show k / 6 * 6 + k % 6 = k by omega] at this
    rw [this]
  · rw [List.getElem?_take, if_neg hk, List.getElem?_eq_none (by simp; omega)]
theorem OwnC.rd {w : World} {base : Nat} {v : Value} {L : List Cell} (h : OwnC w base v L) : RdC w v L := by
  by_cases h0 : 0 < L.length
  · obtain ⟨g, cap, rfl, _, hc, _, hb⟩ := h.blk h0
    have := hb.rd 0 L.length cap hc (by omega) (q := 0) rfl
    rwa [sub_all] at this
  · obtain rfl := List.eq_nil_of_length_eq_zero (by omega : L.length = 0)
    obtain ⟨A, c, rfl⟩ := h.slice
    exact ⟨A, c, rfl, Nat.zero_le _, fun h => absurd h (by simp)⟩
theorem OwnC.lower {w : World} {base base' : Nat} {v : Value} {L : List Cell} (h : OwnC w base v L) (hb : base' ≤ base) : OwnC w base' v L := by
  obtain ⟨h1, h | ⟨g, cap, cur, rfl, hg, r⟩⟩ := h
  · exact ⟨h1, .inl h⟩
  · exact ⟨h1, .inr ⟨g, cap, cur, rfl, by omega, r⟩⟩
end Go.Proofs.YtpmfjombfcnhmaaGreatDoor
