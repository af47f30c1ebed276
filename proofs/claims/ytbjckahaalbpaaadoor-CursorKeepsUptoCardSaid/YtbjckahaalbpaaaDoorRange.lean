/- Where the cursor may come to, and what does not change: plain law of the moves. -/
import Derived.Test.YtbjckahaalbpaaaDoorMoves
set_option linter.unusedVariables false
set_option linter.unusedSimpArgs false
set_option linter.unnecessarySimpa false
namespace Go.Proofs.YtbjckahaalbpaaaDoor
open Go Go.RowKit

theorem stepT_in (l : List Bool) (way : Int) : ∀ (k : Nat) (p n : Int), 0 ≤ p → p < l.length → 0 ≤ stepT l way k p n ∧ stepT l way k p n < l.length
  | 0, p, n, h0, h1 => ⟨h0, h1⟩
  | k + 1, p, n, h0, h1 => by
    unfold stepT
    split
    · rename_i h
      exact stepT_in l way k _ _ h.2.1 h.2.2
    · exact ⟨h0, h1⟩
/-- the screen but for its cursor -/
def putCur (s : Scr) (c : Cur) : Scr := { s with cur := c }
structure Fine (s T s' : Scr) : Prop where
  bd : Bd T
  wrap : T.cur.wrap = false
  mr : T.mr = s.mr
  mc : T.mc = s.mc
  rest : putCur T s'.cur = s'
theorem atRow_in {s s' : Scr} {r : Int} (h : Bd s) (hw : s.cur.wrap = false) (hr : 0 ≤ r ∧ r < s.mr) (hs : putCur s s'.cur = s') : Fine s (atRow s r) s' :=
  ⟨⟨h.mr, h.mc, hr, h.col, h.top, h.bot⟩, hw, rfl, rfl, hs⟩
theorem atCol_in {s s' : Scr} {c : Int} (h : Bd s) (hw : s.cur.wrap = false) (hc : 0 ≤ c ∧ c < s.mc) (hs : putCur s s'.cur = s') : Fine s (atCol s c) s' :=
  ⟨⟨h.mr, h.mc, h.row, hc, h.top, h.bot⟩, hw, rfl, rfl, hs⟩
theorem upR_in {s : Scr} (h : Bd s) {n : Int} (hn : 1 ≤ n) : 0 ≤ upR s n ∧ upR s n < s.mr := by
  have := h.row; have := h.top; have := h.mr; have := h.bot
  unfold upR
  split <;> omega
theorem downR_in {s : Scr} (h : Bd s) {n : Int} (hn : 1 ≤ n) : 0 ≤ downR s n ∧ downR s n < s.mr := by
  have := h.row; have := h.top; have := h.mr; have := h.bot
  unfold downR
  split <;> omega
theorem lineR_in {s : Scr} (h : Bd s) {n : Int} (hn : 1 ≤ n) : 0 ≤ lineR s n ∧ lineR s n < s.mr := by
  have := h.row; have := h.top; have := h.mr; have := h.bot
  unfold lineR
  split <;> omega
theorem Fine.col {s T s' : Scr} (h : Fine s T s') {c : Int} (hc : 0 ≤ c ∧ c < s.mc) : Fine s (atCol T c) s' := by
  have x := atCol_in (c := c) h.bd h.wrap (by rw [h.mc]; exact hc) h.rest
  exact ⟨x.bd, x.wrap, x.mr.trans h.mr, x.mc.trans h.mc, x.rest⟩
set_option maxHeartbeats 2000000 in
theorem toS_in {s : Scr} (h : Bd s) (ht : (s.tabs.length : Int) = s.mc) (key : Int) {n k : Int} (hn : 1 ≤ n) (hk : 1 ≤ k) : Fine (noWrap s) (toS s key n k) s := by
  have hb := h.noWrap
  have hw : (noWrap s).cur.wrap = false := rfl
  have hp : putCur (noWrap s) s.cur = s := rfl
  have ht2 : ((noWrap s).tabs.length : Int) = (noWrap s).mc := ht
  unfold toS
  obtain ⟨q, hq⟩ : ∃ q, noWrap s = q := ⟨_, rfl⟩
  simp only [hq]
  rw [hq] at hb hw hp ht2
  clear hq ht h
  have c := hb.col
  have cc := hb.mc
  have cT : 0 ≤ nextT q.tabs q.cur.col n ∧ nextT q.tabs q.cur.col n < q.mc := by have := stepT_in q.tabs 1 q.tabs.length q.cur.col n (by omega) (by omega); unfold nextT; omega
  have cB : 0 ≤ backT q.tabs q.cur.col n ∧ backT q.tabs q.cur.col n < q.mc := by have := stepT_in q.tabs (-1) q.tabs.length q.cur.col n (by omega) (by omega); unfold backT; omega
  have u : Fine q (atRow q (upR q n)) s := atRow_in hb hw (upR_in hb hn) hp
  have d : Fine q (atRow q (downR q n)) s := atRow_in hb hw (downR_in hb hn) hp
  have l : Fine q (atRow q (lineR q n)) s := atRow_in hb hw (lineR_in hb hn) hp
  split
  · exact u
  split
  · exact d
  split
  · exact atCol_in hb hw (by omega) hp
  split
  · exact atCol_in hb hw (by omega) hp
  split
  · exact d.col (by omega)
  split
  · exact u.col (by omega)
  split
  · exact atCol_in hb hw (by omega) hp
  split
  · exact l
  split
  · exact l.col (by omega)
  split
  · exact atCol_in hb hw cT hp
  split
  · exact atCol_in hb hw cB hp
  · exact ⟨hb, hw, rfl, rfl, hp⟩
end Go.Proofs.YtbjckahaalbpaaaDoor
