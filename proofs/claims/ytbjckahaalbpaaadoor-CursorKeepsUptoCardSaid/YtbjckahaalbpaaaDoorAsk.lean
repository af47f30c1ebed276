/- A law's argument read: screens, numbers. -/
import Derived.Test.YtbjckahaalbpaaaDoorBulk
import Derived.Test.YtbjckahaalbpaaaDoorHeavy
set_option linter.unusedVariables false
set_option linter.unusedSimpArgs false
set_option linter.unnecessarySimpa false
namespace Go.Proofs.YtbjckahaalbpaaaDoor
open Go Go.RowKit

def shI : Sh := .int .i64
def shAttr : Sh := .st (.cons shI (.cons shI (.cons shI .nil)))
def shCell : Sh := .st (.cons shI (.cons .str (.cons shI (.cons shAttr .nil))))
def shGrid : Sh := .st (.cons shI (.cons shI (.cons (.sl shCell 6 56) .nil)))
def shCur : Sh := .st (.cons shI (.cons shI (.cons .bool (.cons shAttr (.cons shI (.cons shI (.cons shI (.cons .bool .nil))))))))
def shScr : Sh := .st (.cons shGrid (.cons shGrid (.cons .bool (.cons shCur (.cons shCur (.cons shCur (.cons shI (.cons shI (.cons (.sl .bool 1 1) (.cons shI (.cons .str (.cons shI .nil))))))))))))
def shAsk : Sh := .st (.cons (.sl shScr 43 400) (.cons shI (.cons shI (.cons shI (.cons shI .nil)))))
theorem shAsk_fits : shAsk.fits Tryd.prog (.inl 24) = true := by kernel_rfl

theorem rdB_int {w : World} {B : Nat} {cs : List Value} (h : shI.rdB w B cs) : ∃ n : Int, cs = [.int .i64 n] := by
  obtain ⟨n, rfl, _⟩ := h
  exact ⟨n, rfl⟩
theorem rdB_cons {w : World} {B : Nat} {a r : Sh} {cs : List Value} (h : (Sh.cons a r).rdB w B cs) : ∃ c1 c2, cs = c1 ++ c2 ∧ a.rdB w B c1 ∧ r.rdB w B c2 := h
theorem rdB_nil {w : World} {B : Nat} {cs : List Value} (h : Sh.nil.rdB w B cs) : cs = [] := h
theorem rdB_st {w : World} {B : Nat} {s : Sh} {cs : List Value} (h : (Sh.st s).rdB w B cs) : s.rdB w B cs := h
theorem rdB_attr {w : World} {B : Nat} {cs : List Value} (h : shAttr.rdB w B cs) : ∃ a : Attr, cs = [.int .i64 a.fg, .int .i64 a.bg, .int .i64 a.fl] := by
  obtain ⟨c1, r1, rfl, h1, h⟩ := rdB_cons (rdB_st h)
  obtain ⟨c2, r2, rfl, h2, h⟩ := rdB_cons h
  obtain ⟨c3, r3, rfl, h3, h⟩ := rdB_cons h
  obtain rfl := rdB_nil h
  obtain ⟨x, rfl⟩ := rdB_int h1
  obtain ⟨y, rfl⟩ := rdB_int h2
  obtain ⟨z, rfl⟩ := rdB_int h3
  exact ⟨⟨x, y, z⟩, rfl⟩
theorem rdB_str {w : World} {B : Nat} {cs : List Value} (h : Sh.str.rdB w B cs) : ∃ s : ByteArray, cs = [.string s] ∧ s.size ≤ B := h
theorem rdB_bool {w : World} {B : Nat} {cs : List Value} (h : Sh.bool.rdB w B cs) : ∃ b : Bool, cs = [.bool b] := h
theorem rdB_cell {w : World} {B : Nat} {cs : List Value} (h : shCell.rdB w B cs) : ∃ c : Cell, (∀ j, j < 6 → cs[j]? = some (cellV c j)) ∧ c.cb.size ≤ B := by
  obtain ⟨c1, r1, rfl, h1, h⟩ := rdB_cons (rdB_st h)
  obtain ⟨c2, r2, rfl, h2, h⟩ := rdB_cons h
  obtain ⟨c3, r3, rfl, h3, h⟩ := rdB_cons h
  obtain ⟨c4, r4, rfl, h4, h⟩ := rdB_cons h
  obtain rfl := rdB_nil h
  obtain ⟨x, rfl⟩ := rdB_int h1
  obtain ⟨s, rfl, hs⟩ := rdB_str h2
  obtain ⟨z, rfl⟩ := rdB_int h3
  obtain ⟨a, rfl⟩ := rdB_attr h4
  refine ⟨⟨x, s, z, a⟩, fun j hj => ?_, hs⟩
  match j, hj with
  | 0, _ | 1, _ | 2, _ | 3, _ | 4, _ | 5, _ => rfl
theorem rdB_cells {w : World} {cs : List Value} (h : (Sh.sl shCell 6 56).rdB w 1048576 cs) : ∃ v L, cs = [v] ∧ RdC w v L ∧ L.length ≤ 1048576 ∧ txtOk L := by
  obtain ⟨A, len, cap, rfl, hl, hc, hr⟩ := rdB_slice h (by omega)
  have hx : ∀ i, i < len → ∃ x : Cell, x.cb.size ≤ 1048576 ∧ ∀ b off, A = some ⟨b, off, none⟩ → ∀ j, j < 6 → w.cell? ⟨b, off + i * 6 + j, none⟩ = some (cellV x j) := by
    intro i hi
    obtain ⟨b, off, rfl, hr2⟩ := hr (by omega)
    obtain ⟨c, _, hcell, hrd⟩ := hr2 i hi
    obtain ⟨x, hx, hs⟩ := rdB_cell hrd
    refine ⟨x, hs, fun b' off' e j hj => ?_⟩
    cases e
    rw [hcell j hj, hx j hj]
  obtain ⟨L, hll, hl2⟩ := choose_list hx
  subst hll
  refine ⟨_, L, rfl, ⟨A, cap, rfl, hl, fun h0 => ?_⟩, hc, fun i hi => ?_⟩
  · obtain ⟨b, off, rfl, _⟩ := hr h0
    refine ⟨b, off, rfl, fun i hi j hj => ?_⟩
    rw [(hl2 i hi).2 b off rfl j hj]
    simp [at_, hi]
  · simpa [at_, hi] using (hl2 i hi).1
theorem rdB_bools {w : World} {cs : List Value} (h : (Sh.sl .bool 1 1).rdB w 1048576 cs) : ∃ v l, cs = [v] ∧ RdB w v l ∧ l.length ≤ 1048576 := by
  obtain ⟨A, len, cap, rfl, hl, hc, hr⟩ := rdB_slice h (by omega)
  have hx : ∀ i, i < len → ∃ x : Bool, True ∧ ∀ b off, A = some ⟨b, off, none⟩ → w.cell? ⟨b, off + i * 1, none⟩ = some (.bool x) := by
    intro i hi
    obtain ⟨b, off, rfl, hr2⟩ := hr (by omega)
    obtain ⟨c, _, hcell, hrd⟩ := hr2 i hi
    obtain ⟨x, rfl⟩ := rdB_bool hrd
    refine ⟨x, trivial, fun b' off' e => ?_⟩
    cases e
    simpa using hcell 0 (by omega)
  obtain ⟨L, hll, hl2⟩ := choose_list hx
  subst hll
  refine ⟨_, L, rfl, ⟨A, cap, rfl, hl, fun h0 => ?_⟩, hc⟩
  obtain ⟨b, off, rfl, _⟩ := hr h0
  refine ⟨b, off, rfl, fun i hi j hj => ?_⟩
  obtain rfl : j = 0 := by omega
  rw [Nat.add_zero, (hl2 i hi).2 b off rfl]
  simp [hi]
theorem rdB_cur {w : World} {B : Nat} {cs : List Value} (h : shCur.rdB w B cs) : ∃ c : Cur, cs = [.int .i64 c.row, .int .i64 c.col, .bool c.wrap, .int .i64 c.a.fg, .int .i64 c.a.bg, .int .i64 c.a.fl, .int .i64 c.g0, .int .i64 c.g1, .int .i64 c.sh, .bool c.org] := by
  obtain ⟨c1, r1, rfl, h1, h⟩ := rdB_cons (rdB_st h)
  obtain ⟨c2, r2, rfl, h2, h⟩ := rdB_cons h
  obtain ⟨c3, r3, rfl, h3, h⟩ := rdB_cons h
  obtain ⟨c4, r4, rfl, h4, h⟩ := rdB_cons h
  obtain ⟨c5, r5, rfl, h5, h⟩ := rdB_cons h
  obtain ⟨c6, r6, rfl, h6, h⟩ := rdB_cons h
  obtain ⟨c7, r7, rfl, h7, h⟩ := rdB_cons h
  obtain ⟨c8, r8, rfl, h8, h⟩ := rdB_cons h
  obtain rfl := rdB_nil h
  obtain ⟨x1, rfl⟩ := rdB_int h1
  obtain ⟨x2, rfl⟩ := rdB_int h2
  obtain ⟨x3, rfl⟩ := rdB_bool h3
  obtain ⟨x4, rfl⟩ := rdB_attr h4
  obtain ⟨x5, rfl⟩ := rdB_int h5
  obtain ⟨x6, rfl⟩ := rdB_int h6
  obtain ⟨x7, rfl⟩ := rdB_int h7
  obtain ⟨x8, rfl⟩ := rdB_bool h8
  exact ⟨⟨x1, x2, x3, x4, x5, x6, x7, x8⟩, rfl⟩
theorem rdB_grid {w : World} {cs : List Value} (h : shGrid.rdB w 1048576 cs) : ∃ r c v L, cs = [.int .i64 r, .int .i64 c, v] ∧ RdC w v L ∧ L.length ≤ 1048576 ∧ txtOk L := by
  obtain ⟨c1, r1, rfl, h1, h⟩ := rdB_cons (rdB_st h)
  obtain ⟨c2, r2, rfl, h2, h⟩ := rdB_cons h
  obtain ⟨c3, r3, rfl, h3, h⟩ := rdB_cons h
  obtain rfl := rdB_nil h
  obtain ⟨x1, rfl⟩ := rdB_int h1
  obtain ⟨x2, rfl⟩ := rdB_int h2
  obtain ⟨v, L, rfl, hR, hl, ht⟩ := rdB_cells h3
  exact ⟨x1, x2, v, L, rfl, hR, hl, ht⟩
theorem rdB_scr {w : World} {cs : List Value} (h : shScr.rdB w 1048576 cs) : ∃ x : SV, cs = x.l ∧ RdScr w x.s x.m x.o x.t := by
  obtain ⟨c1, r1, rfl, h1, h⟩ := rdB_cons (rdB_st h)
  obtain ⟨c2, r2, rfl, h2, h⟩ := rdB_cons h
  obtain ⟨c3, r3, rfl, h3, h⟩ := rdB_cons h
  obtain ⟨c4, r4, rfl, h4, h⟩ := rdB_cons h
  obtain ⟨c5, r5, rfl, h5, h⟩ := rdB_cons h
  obtain ⟨c6, r6, rfl, h6, h⟩ := rdB_cons h
  obtain ⟨c7, r7, rfl, h7, h⟩ := rdB_cons h
  obtain ⟨c8, r8, rfl, h8, h⟩ := rdB_cons h
  obtain ⟨c9, r9, rfl, h9, h⟩ := rdB_cons h
  obtain ⟨c10, r10, rfl, h10, h⟩ := rdB_cons h
  obtain ⟨c11, r11, rfl, h11, h⟩ := rdB_cons h
  obtain ⟨c12, r12, rfl, h12, h⟩ := rdB_cons h
  obtain rfl := rdB_nil h
  obtain ⟨mr, mc, m, ms, rfl, hm, lm, tm⟩ := rdB_grid h1
  obtain ⟨orr, oc, o, os, rfl, ho, lo, tO⟩ := rdB_grid h2
  obtain ⟨sw, rfl⟩ := rdB_bool h3
  obtain ⟨cur, rfl⟩ := rdB_cur h4
  obtain ⟨sav, rfl⟩ := rdB_cur h5
  obtain ⟨too, rfl⟩ := rdB_cur h6
  obtain ⟨top, rfl⟩ := rdB_int h7
  obtain ⟨bot, rfl⟩ := rdB_int h8
  obtain ⟨t, tabs, rfl, ht, lt⟩ := rdB_bools h9
  obtain ⟨modes, rfl⟩ := rdB_int h10
  obtain ⟨title, rfl, ls⟩ := rdB_str h11
  obtain ⟨last, rfl⟩ := rdB_int h12
  exact ⟨⟨⟨mr, mc, ms, orr, oc, os, sw, cur, sav, too, top, bot, tabs, modes, title, last⟩, m, o, t⟩, rfl, hm, ho, ht, lm, lo, lt, ls, tm, tO⟩
theorem rdB_ask {w : World} {cs : List Value} (h : shAsk.rdB w 1048576 cs) : ∃ v L n m k r, cs = askL v n m k r ∧ RdSS w v L ∧ L.length ≤ 1048576 := by
  obtain ⟨c1, r1, rfl, h1, h⟩ := rdB_cons (rdB_st h)
  obtain ⟨c2, r2, rfl, h2, h⟩ := rdB_cons h
  obtain ⟨c3, r3, rfl, h3, h⟩ := rdB_cons h
  obtain ⟨c4, r4, rfl, h4, h⟩ := rdB_cons h
  obtain ⟨c5, r5, rfl, h5, h⟩ := rdB_cons h
  obtain rfl := rdB_nil h
  obtain ⟨n, rfl⟩ := rdB_int h2
  obtain ⟨m, rfl⟩ := rdB_int h3
  obtain ⟨k, rfl⟩ := rdB_int h4
  obtain ⟨r, rfl⟩ := rdB_int h5
  obtain ⟨A, len, cap, rfl, hl, hc, hr⟩ := rdB_slice h1 (by omega)
  have hx : ∀ i, i < len → ∃ x : SV, RdScr w x.s x.m x.o x.t ∧ ∀ b off, A = some ⟨b, off, none⟩ → ∀ j u, x.l[j]? = some u → w.cell? ⟨b, off + i * 43 + j, none⟩ = some u := by
    intro i hi
    obtain ⟨b, off, rfl, hr2⟩ := hr (by omega)
    obtain ⟨c, hlen, hcell, hrd⟩ := hr2 i hi
    obtain ⟨x, rfl, hR⟩ := rdB_scr hrd
    refine ⟨x, hR, fun b' off' e j u hj => ?_⟩
    cases e
    have hj2 : j < 43 := by rw [← hlen]; exact (List.getElem?_eq_some_iff.1 hj).1
    rw [hcell j hj2]; exact hj
  obtain ⟨L, hll, hl2⟩ := choose_list hx
  subst hll
  refine ⟨_, L, n, m, k, r, rfl, ⟨A, cap, rfl, hl, fun i hi => ?_⟩, hc⟩
  obtain ⟨b, off, rfl, _⟩ := hr (by omega)
  exact ⟨b, off, rfl, (hl2 i hi).2 b off rfl, (hl2 i hi).1⟩
end Go.Proofs.YtbjckahaalbpaaaDoor
