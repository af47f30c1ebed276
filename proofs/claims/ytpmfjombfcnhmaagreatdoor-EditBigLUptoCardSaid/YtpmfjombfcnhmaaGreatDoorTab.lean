/- Stops: the program's tabs and the reference's, each call's contract. -/
import Derived.Test.YtpmfjombfcnhmaaGreatDoorNum
import Derived.Laws.CopyOwn
import Derived.Deep.DeepMust
set_option linter.unusedVariables false
set_option linter.unusedSimpArgs false
namespace Go.Proofs.YtpmfjombfcnhmaaGreatDoor
open Go Go.RowKit

/-- a readable slice of bools -/
def RdB (w : World) (v : Value) (l : List Bool) : Prop := Rows w v l.length 1 fun i _ => .bool (l.getD i false)
theorem RdB.below {w w1 : World} {v : Value} {l : List Bool} (h : RdB w v l) (hb : Below w.heap.size w w1) : RdB w1 v l := Rows.below h hb
theorem RdB.nil (w : World) : RdB w (.slice none 0 0) [] := ⟨none, 0, rfl, Nat.le_refl _, fun h => absurd h (by simp)⟩
theorem RdB.open_ {w : World} {v : Value} {l : List Bool} (h : RdB w v l) : ∃ A c, v = .slice A l.length c ∧ l.length ≤ c ∧ ∀ W, Below w.heap.size w W → ∀ i, i < l.length → ∃ b off, A = some ⟨b, off, none⟩ ∧ W.cell? ⟨b, off + i, none⟩ = some (.bool (l.getD i false)) := by
  obtain ⟨A, c, hv, hc, hr⟩ := h
  refine ⟨A, c, hv, hc, fun W hW i hi => ?_⟩
  obtain ⟨b, off, hA, hr⟩ := hr (by omega)
  exact ⟨b, off, hA, cell_below hW (by simpa using hr i hi 0 (by omega))⟩
/-- a slice of bools in memory of the call's own, from block 'base' on -/
def OwnB (w : World) (base : Nat) (v : Value) (l : List Bool) : Prop := w.ownsRow base 4 1 v l.length (l.map .bool)
theorem OwnB.below {w w1 : World} {base : Nat} {v : Value} {l : List Bool} (h : OwnB w base v l) (hb : Below w.heap.size w w1) : OwnB w1 base v l := own_below h hb
theorem OwnB.rd {w : World} {base : Nat} {v : Value} {l : List Bool} (h : OwnB w base v l) : RdB w v l := by
  obtain ⟨hl, h | ⟨g, cap, cur, rfl, hb, hg, hn, hm, hs, ht⟩⟩ := h
  · obtain ⟨rfl, h0⟩ := h
    obtain rfl := List.eq_nil_of_length_eq_zero h0
    exact RdB.nil w
  · refine ⟨_, cap, rfl, hn, fun _ => ⟨g, 0, rfl, fun i hi j hj => ?_⟩⟩
    obtain rfl : j = 0 := by omega
    rw [show 0 + i * 1 + 0 = i by omega, cell_of_row w g i cur _ _ hg, ← Array.getElem?_toList]
    have : (cur.toList.take (l.length * 1))[i]? = (l.map Value.bool)[i]? := by rw [ht]
    rw [List.getElem?_take, if_pos (by omega)] at this
    rw [this]; simp [hi]

/-- the n-th stop by a way: rounds, place, number -/
def stepT (l : List Bool) (way : Int) : Nat → Int → Int → Int
  | 0, p, _ => p
  | k + 1, p, n => if 0 < n ∧ 0 ≤ p + way ∧ p + way < l.length then stepT l way k (p + way) (if l.getD (p + way).toNat false = true then n - 1 else n) else p
def nextT (l : List Bool) (p n : Int) : Int := stepT l 1 l.length p n
def backT (l : List Bool) (p n : Int) : Int := stepT l (-1) l.length p n

def tabsOk (l : List Bool) : Bool := decide (1 ≤ l.length ∧ l.length ≤ 40)
theorem may_any (l : List Bool) (A : Option Addr) (c : Nat) (w : World) (hl : l.length ≤ 140737488351232) : Calls Tryz.prog 58 #[.slice A l.length c] w fun e w' => e = .returned (.bool (tabsOk l)) ∧ w = w' := by
  go_enter Tryz.func58, Tryz.ntmps58
  go_wp2
  all_goals (go_ret; exact ⟨ret_bool (by unfold tabsOk; rw [Bool.eq_iff_iff]; simp; omega), rfl⟩)
theorem may_is {l : List Bool} {x : Bool} (h : tabsOk l = x) (A : Option Addr) (c : Nat) (w : World) (hl : l.length ≤ 140737488351232) : Calls Tryz.prog 58 #[.slice A l.length c] w fun e w' => e = .returned (.bool x) ∧ w = w' := h ▸ may_any l A c w hl
theorem infoB : (Tryz.prog.info? 4).map (fun i => (i.zero, i.size, i.bytes)) = some (some (.bool false), 1, 1) := by kernel_rfl
theorem infoS : (Tryz.prog.info? 4).map (·.size) = some 1 := by kernel_rfl
theorem rd_news {w : World} {A : Option Addr} {n c : Nat} {l : List Bool} (h : RdB w (.slice A n c) l) : n = l.length ∧ (0 < n → ∃ b q, A = some ⟨b, q, none⟩ ∧ ∀ j u, (l.map Value.bool)[j]? = some u → w.cell? ⟨b, q + j, none⟩ = some u) := by
  obtain ⟨A', c', he, hc, hr⟩ := h
  cases he
  refine ⟨rfl, fun h0 => ?_⟩
  obtain ⟨b, off, hA, hr2⟩ := hr h0
  refine ⟨b, off, hA, fun j u hj => ?_⟩
  rw [List.getElem?_map, Option.map_eq_some_iff] at hj
  obtain ⟨x, hx, rfl⟩ := hj
  have hjl := (List.getElem?_eq_some_iff.1 hx).1
  have := hr2 j hjl 0 (by omega)
  rw [Nat.mul_one, Nat.add_zero] at this
  simp only [List.getD_eq_getElem?_getD, hx] at this
  exact this
theorem one_bools (l : List Bool) : ∀ u ∈ l.map Value.bool, u.oneCell' = true := by
  intro u hu
  obtain ⟨x, _, rfl⟩ := List.mem_map.1 hu
  rfl

set_option maxHeartbeats 1000000 in
theorem cloneB_any (l : List Bool) (v : Value) (w : World) (hv : RdB w v l) (hl : l.length ≤ 140737488351232) :
    Calls Tryz.prog 64 #[v] w fun e w' => ∃ v', e = .returned v' ∧ OwnB w' w.heap.size v' l ∧ Below w.heap.size w w' := by
  obtain ⟨A, c, rfl, hc, _⟩ := hv.open_
  obtain ⟨_, hn2⟩ := rd_news hv
  have HN := hid hn2
  have HL := hid (one_bools l)
  clear hv hn2
  cases A with
  | none =>
    have h0 : l = [] := by
      cases l with
      | nil => rfl
      | cons x l => obtain ⟨b, q, hA, _⟩ := HN.out (by simp); cases hA
    subst h0
    have hnil := fun wx => Lib.run_eql_slice_nil (P := Tryz.prog) wx 36 4 none 0 c 0 0 Tryz.underlying36
    go_enter Tryz.func64, Tryz.ntmps64
    go_wp2
    go_ret
    exact ⟨_, rfl, World.ownsRow_nil _ _ _ _, Below.refl _ _⟩
  | some a =>
    have hnil := fun wx => Lib.run_eql_slice_nil (P := Tryz.prog) wx 36 4 (some a) l.length c 0 0 Tryz.underlying36
    go_enter Tryz.func64, Tryz.ntmps64
    go_wp2_with (at_builtin; refine wp_app rfl _ _ 36 rfl w.heap.size 4 (.bool false) 1 1 Tryz.underlying36 infoB rfl (by decide) _ 0 [] rfl (World.ownsRow_lit (base := w.heap.size) w #[] 0 (Nat.le_refl _) (by decide) rfl) (some a) l.length c (l.map Value.bool) rfl (by simp) (fun h0 => let ⟨b, q, hA, hx⟩ := HN.out h0; ⟨b, q, hA, fun j u hj => cell_below (alloc_below (Below.refl _ _) _) (hx j u hj)⟩) HL.out (by omega) (by omega) (by simp) ?_; intro v' w' hown hg; have HO := hid hown; have HG := hid hg; clear hown hg)
    go_ret
    refine ⟨_, rfl, ?_, below_of_grown (alloc_below (Below.refl _ _) _) HG.out (by intro k hk; cases hk; exact Nat.le_refl _)⟩
    have := HO.out
    unfold OwnB
    simpa using this

theorem own_push {w : World} {base : Nat} {v : Value} {l : List Bool} {i : Nat} (hi : i < l.length) (h : w.ownsRow base 4 1 v (i + 1) ((l.take i).map Value.bool ++ [.bool (l.getD i false)])) : OwnB w base v (l.take (i + 1)) := by
  unfold OwnB
  rw [List.length_take, Nat.min_eq_left (by omega), List.take_succ_eq_append_getElem hi, List.map_append]
  simpa [hi] using h
theorem own_shape {w : World} {base n : Nat} {v : Value} {l : List Bool} (h : OwnB w base v l) (hn : l.length = n) : w.ownsRow base 4 1 v n (l.map Value.bool) := by subst hn; exact h
theorem one_bool (x : Bool) : ∀ u ∈ [Value.bool x], u.oneCell' = true := fun u hu => by simp at hu; subst hu; rfl
theorem cell_one {w : World} {v : Value} {t : TypeId} : ∀ (j : Nat) (u : Value), [v][j]? = some u → (w.alloc (.cells #[v] t)).cell? ⟨w.heap.size, 0 + j, none⟩ = some u := by
  intro j u hj
  rw [Nat.zero_add, cell_new]; simpa using hj
set_option maxHeartbeats 1000000 in
theorem copyB_any (l : List Bool) (v : Value) (w : World) (hv : RdB w v l) (hl : l.length ≤ 140737488351232) :
    Calls Tryz.prog 29 #[v] w fun e w' => ∃ v', e = .returned v' ∧ OwnB w' w.heap.size v' l ∧ Below w.heap.size w w' := by
  obtain ⟨A, c, rfl, hc, hcell⟩ := hv.open_
  have HC := hid hcell
  clear hcell hv
  go_enter Tryz.func29, Tryz.ntmps29
  go_wp2
  go_loopg [3, 4] l.length (fun k v3 v4 wr => ∃ i : Nat, v4 = .int .i64 i ∧ i ≤ l.length ∧ k + i = l.length ∧ Hid (OwnB wr w.heap.size v3 (l.take i)) ∧ Hid (Below w.heap.size w wr))
  case atStart => exact ⟨0, rfl, by omega, by omega, hid (World.ownsRow_nil _ _ _ _), hid (Below.refl _ _)⟩
  case round =>
    obtain ⟨i, rfl, hi, hk, HO, HB⟩ := hrel
    by_cases hlt : i < l.length
    · obtain ⟨b, off, rfl, hce⟩ := HC.out wr HB.out i hlt
      obtain ⟨x, hx⟩ : ∃ x, l.getD i false = x := ⟨_, rfl⟩
      rw [hx] at hce
      have HX := hid hx
      have HT := hid (show (l.take i).length = i by simp; omega)
      have hlt2 : (i : Int) < (l.length : Int) := by omega
      clear hx
      go_wp2_with (at_builtin; go_must (refine wp_app rfl _ _ 36 rfl w.heap.size 4 (.bool false) 1 1 Tryz.underlying36 infoB rfl (by decide) _ i ((l.take i).map Value.bool) rfl ((own_shape HO.out HT.out).alloc _) (some ⟨wr.heap.size, 0, none⟩) 1 1 [.bool x] rfl rfl (fun _ => ⟨_, _, rfl, cell_one⟩) (one_bool _) (by omega) (by omega) (Nat.le_trans HB.out.size (by simp)) ?_); intro v' w1 hown hg; have HO1 := hid hown; have HG := hid hg; clear hown hg)
      go_roundg (gk - 1)
      case measure => omega
      case rel => exact ⟨i + 1, by go_num, by omega, by omega, hid (own_push hlt (by have := HO1.out; rwa [← HX.out] at this)), hid (below_of_grown (alloc_below HB.out _) HG.out (fun k hk => (HO.out.lt k hk).1))⟩
    · have hlt2 : ¬ (i : Int) < (l.length : Int) := by omega
      go_wp2
      go_ret
      exact ⟨_, rfl, by have := HO.out; rwa [List.take_of_length_le (by omega)] at this, HB.out⟩

theorem ownB_of_row {w : World} {base g n : Nat} {f : Nat → Value} {l : List Bool} (h : w.rowIs g 4 n f) (hl : l.length = n) (hm : n ≤ 1000000) (hf : ∀ j, j < n → f j = .bool (l.getD j false)) (hb : base ≤ g := by omega) :
    OwnB w base (.slice (some ⟨g, 0, none⟩) n n) l := by
  obtain ⟨c, hg, hs, hc⟩ := h
  subst hl
  refine ⟨by simp, .inr ⟨g, l.length, c, rfl, hb, hg, Nat.le_refl _, by simp only [maxLen]; omega, by omega, ?_⟩⟩
  rw [List.take_of_length_le (by rw [Array.length_toList]; omega)]
  apply List.ext_getElem?
  intro i
  by_cases hi : i < l.length
  · rw [Array.getElem?_toList, hc i hi, hf i hi]; simp [hi]
  · rw [List.getElem?_eq_none (by rw [Array.length_toList]; omega), List.getElem?_eq_none (by simp; omega)]
/-- stops of n columns, of which some are told -/
def eachT (i : Nat) : Bool := decide (i % 8 = 0) && decide (0 < i)
def wideT (l : List Bool) (n : Nat) : List Bool := tab n fun i => if i < l.length then l.getD i false else eachT i

theorem ownB_at {w : World} {base : Nat} {v : Value} {l : List Bool} (h : OwnB w base v l) (h0 : 0 < l.length) : ∃ g cap, v = .slice (some ⟨g, 0, none⟩) l.length cap := by
  obtain ⟨_, h | ⟨g, cap, cur, rfl, _⟩⟩ := h
  · omega
  · exact ⟨g, cap, rfl⟩
theorem ownB_cell {w : World} {base g n cap i : Nat} {l : List Bool} (h : OwnB w base (.slice (some ⟨g, 0, none⟩) n cap) l) (hi : i < l.length) : w.cell? ⟨g, i, none⟩ = some (.bool (l.getD i false)) := by
  obtain ⟨_, h | ⟨g', cap', cur, e, _⟩⟩ := id h
  · cases h.1
  · cases e
    have := World.ownsRow.cellAt (show w.ownsRow base 4 1 (.slice (some ⟨g, 0, none⟩) l.length cap) l.length (l.map .bool) from h) i (by omega)
    rw [this]; simp [hi]
theorem ownB_free {w : World} {base g n cap : Nat} {l : List Bool} (h : OwnB w base (.slice (some ⟨g, 0, none⟩) n cap) l) (i : Nat) : w.frozen? ⟨g, i, none⟩ = false := by
  obtain ⟨_, h | ⟨g', cap', cur, e, _⟩⟩ := id h
  · cases h.1
  · cases e
    exact World.ownsRow.frozenAt (show w.ownsRow base 4 1 (.slice (some ⟨g, 0, none⟩) l.length cap) l.length (l.map .bool) from h) i
theorem ownB_set {w : World} {base g n cap i : Nat} {l : List Bool} (h : OwnB w base (.slice (some ⟨g, 0, none⟩) n cap) l) (hi : i < l.length) (x : Bool) : OwnB (w.setCell ⟨g, i, none⟩ (.bool x)) base (.slice (some ⟨g, 0, none⟩) n cap) (l.set i x) := by
  obtain ⟨_, h | ⟨g', cap', cur, e, _⟩⟩ := id h
  · cases h.1
  · cases e
    have := World.ownsRow.stored (show w.ownsRow base 4 1 (.slice (some ⟨g, 0, none⟩) l.length cap) l.length (l.map .bool) from h) i (.bool x)
    unfold OwnB
    rw [List.length_set, List.map_set]
    exact this.1
/-! ### New, Resize, Set, Next, Back -/
theorem rdB_take {w : World} {A : Option Addr} {n c : Nat} {l : List Bool} (h : RdB w (.slice A n c) l) (m : Nat) (hm : m ≤ n) : RdB w (.slice A m c) (l.take m) := by
  obtain ⟨A', c', he, hc, hr⟩ := h
  cases he
  refine ⟨A, c, by rw [List.length_take, Nat.min_eq_left hm], by rw [List.length_take]; omega, fun h0 => ?_⟩
  rw [List.length_take, Nat.min_eq_left hm] at h0
  obtain ⟨b, off, hA, hr2⟩ := hr (by omega)
  refine ⟨b, off, hA, fun i hi j hj => ?_⟩
  rw [List.length_take, Nat.min_eq_left hm] at hi
  have := hr2 i (by omega) j hj
  simp only [List.getD_eq_getElem?_getD] at this ⊢
  rw [List.getElem?_take, if_pos hi]; exact this
/-- may a place and a number be asked? -/
def askOk (l : List Bool) (p n : Int) : Prop := tabsOk l = true ∧ 0 ≤ p ∧ p < l.length ∧ 0 ≤ n ∧ n ≤ 9999
def setOk (l : List Bool) (p : Int) : Prop := tabsOk l = true ∧ 0 ≤ p ∧ p < l.length
theorem eq_take_succ {α : Type} [DecidableEq α] {l m : List α} (d : α) {i : Nat} (h : l.take i = m.take i) (hl : i < l.length) (hm : i < m.length) (hx : l.getD i d = m.getD i d) : l.take (i + 1) = m.take (i + 1) := by
  rw [List.take_succ_eq_append_getElem hl, List.take_succ_eq_append_getElem hm, h]
  simp [hl, hm] at hx
  rw [hx]
set_option maxHeartbeats 1000000 in
theorem eqB_any (l m : List Bool) (v u : Value) (w : World) (hv : RdB w v l) (hu : RdB w u m) (hl : l.length ≤ 140737488351232) (hm : m.length ≤ 140737488351232) :
    Calls Tryz.prog 83 #[v, u] w fun e w' => e = .returned (.bool (decide (l = m))) ∧ Below w.heap.size w w' := by
  obtain ⟨A, c, rfl, hc, hcell⟩ := hv.open_
  obtain ⟨B, d, rfl, hd, hcell2⟩ := hu.open_
  have HC := hid hcell
  have HD := hid hcell2
  obtain ⟨R, hR⟩ : ∃ R, decide (l = m) = R := ⟨_, rfl⟩
  rw [hR]
  have HR := hid hR
  clear hcell hcell2 hv hu hR
  by_cases hlm : l.length = m.length
  · have HE := hid hlm
    have hlm1 : ((l.length : Int) != (m.length : Int)) = false := by simp [hlm]
    clear hlm
    go_enter Tryz.func83, Tryz.ntmps83
    go_wp2
    go_loopg [5] l.length (fun k v5 wr => ∃ i : Nat, v5 = .int .i64 i ∧ i ≤ l.length ∧ k + i = l.length ∧ Hid (l.take i = m.take i) ∧ Hid (Below w.heap.size w wr))
    case atStart => exact ⟨0, rfl, by omega, by omega, hid rfl, hid (Below.refl _ _)⟩
    case round =>
      obtain ⟨i, rfl, hi, hk, HT, HB⟩ := hrel
      by_cases hlt : i < l.length
      · have hlt2 : (i : Int) < (l.length : Int) := by omega
        have him : i < m.length := by have := HE.out; omega
        have hlt3 : (i : Int) < (m.length : Int) := by omega
        obtain ⟨b, off, rfl, hce⟩ := HC.out wr HB.out i hlt
        obtain ⟨b2, off2, rfl, hce2⟩ := HD.out wr HB.out i him
        obtain ⟨x, hx⟩ : ∃ x, l.getD i false = x := ⟨_, rfl⟩
        obtain ⟨y, hy⟩ : ∃ x, m.getD i false = x := ⟨_, rfl⟩
        rw [hx] at hce
        rw [hy] at hce2
        have HX := hid hx
        have HY := hid hy
        clear hx hy
        go_wp2
        go_quiet (fail)
        go_wp2
        · go_ret
          have h := ‹(!x == y) = true›
          exact ⟨ret_bool (by rw [← HR.out]; simp; intro he; rw [← HX.out, ← HY.out, he] at h; simp at h), drewN_below HB.out _⟩
        · have h := ‹(!x == y) = false›
          go_roundg (gk - 1)
          case measure => omega
          case rel => exact ⟨i + 1, by go_num, by omega, by omega, hid (eq_take_succ false HT.out hlt him (by rw [HX.out, HY.out]; simpa using h)), hid (drewN_below HB.out _)⟩
      · have hlt2 : ¬ (i : Int) < (l.length : Int) := by omega
        go_wp2
        go_ret
        exact ⟨ret_bool (by rw [← HR.out]; have := HT.out; rw [List.take_of_length_le (by omega), List.take_of_length_le (by have := HE.out; omega)] at this; simp [this]), HB.out⟩
  · have hlm1 : ((l.length : Int) != (m.length : Int)) = true := by simp; omega
    have HE := hid hlm
    clear hlm
    go_enter Tryz.func83, Tryz.ntmps83
    go_wp2
    go_ret
    exact ⟨ret_bool (by rw [← HR.out]; simp; intro h; exact HE.out (by rw [h])), Below.refl _ _⟩

theorem wideT_take (l : List Bool) (n : Nat) : wideT (l.take (min n l.length)) n = wideT l n := by
  refine tab_congr fun i hi => ?_
  by_cases h : i < l.length
  · rw [if_pos h, if_pos (by rw [List.length_take]; omega)]
    simp only [List.getD_eq_getElem?_getD, List.getElem?_take]
    rw [if_pos (by omega)]
  · rw [if_neg h, if_neg (by rw [List.length_take]; omega)]
theorem take_wide (l : List Bool) (n m : Nat) (h : m ≤ l.length) : l.take m = tab m fun i => if i < l.length then l.getD i false else eachT i := by
  apply ext_getD false
  · simp; omega
  · intro i hi
    have him : i < m := by simp at hi; omega
    rw [tab_getD _ _ _ _ him, if_pos (by omega)]
    simp only [List.getD_eq_getElem?_getD, List.getElem?_take]
    rw [if_pos him]
theorem ownB_slice {w : World} {base : Nat} {v : Value} {l : List Bool} (h : OwnB w base v l) : ∃ A c, v = .slice A l.length c := by
  obtain ⟨_, h | ⟨g, cap, cur, rfl, _⟩⟩ := h
  · exact ⟨none, 0, by rw [h.1, h.2]⟩
  · exact ⟨_, cap, rfl⟩
theorem own_snoc {w : World} {base : Nat} {v : Value} {l : List Bool} {x : Bool} (h : w.ownsRow base 4 1 v (l.length + 1) (l.map Value.bool ++ [.bool x])) : OwnB w base v (l ++ [x]) := by
  unfold OwnB; simpa using h
theorem own_slice {w : World} {base n : Nat} {e : TypeId} {size : Nat} {v : Value} {xs : List Value} (h : w.ownsRow base e size v n xs) : ∃ A c, v = .slice A n c := by
  obtain ⟨_, h | ⟨g, cap, cur, rfl, _⟩⟩ := h
  · exact ⟨none, 0, by rw [h.1, h.2]⟩
  · exact ⟨_, cap, rfl⟩
theorem own_tab_succ {w : World} {base j : Nat} {v : Value} {F : Nat → Bool} {x : Bool} (h : w.ownsRow base 4 1 v (j + 1) ((tab j F).map Value.bool ++ [.bool x])) (hx : x = F j) : OwnB w base v (tab (j + 1) F) := by
  unfold OwnB; rw [tab_succ, List.map_append]; simpa [hx] using h
set_option maxHeartbeats 4000000 in
theorem stops_any (l : List Bool) (v : Value) (n : Nat) (w : World) (hv : RdB w v l) (hl : l.length ≤ 1000) (hn : n ≤ 40) :
    Calls Tryz.prog 93 #[v, .int .i64 (n : Int)] w fun e w' => ∃ v', e = .returned v' ∧ OwnB w' w.heap.size v' (wideT l n) ∧ Below w.heap.size w w' := by
  obtain ⟨A, c, rfl, hc, _⟩ := hv.open_
  rcases Nat.lt_trichotomy n l.length with hnl | hnl | hnl
  · have HV := hid (rdB_take hv n (by omega))
    have HT := hid (take_wide l n n (by omega))
    have HL := hid (show (l.take n).length ≤ 1000 by rw [List.length_take]; omega)
    clear hv
    go_enter Tryz.func93, Tryz.ntmps93
    go_wp2_with (go_at_call 29; (with_reducible refine (copyB_any _ _ _ HV.out (by have := HL.out; omega)).mono ?_); rintro e w' ⟨v', rfl, hO, hB⟩; obtain ⟨A', c', rfl⟩ := ownB_slice hO; rw [HT.out, tab_length]; rw [HT.out, tab_length] at hO; have HO := hid hO; have HB := hid hB; clear hO hB)
    go_loopg [5] (n - n) (fun k v5 wr => ∃ (j : Nat) (A1 : Option Addr) (c1 : Nat), v5 = .slice A1 j c1 ∧ n ≤ j ∧ j ≤ n ∧ k + j = n ∧ Hid (OwnB wr w.heap.size (.slice A1 j c1) (tab j fun i => if i < l.length then l.getD i false else eachT i)) ∧ Hid (Below w.heap.size w wr))
    case atStart => exact ⟨n, _, _, rfl, by omega, by omega, by omega, HO, HB⟩
    case round =>
      clear HO HB
      obtain ⟨j, A1, c1, rfl, hj1, hj2, hk, HO, HB⟩ := hrel
      by_cases hlt : j < n
      · exact absurd hlt (by omega)
      · obtain rfl : j = n := by omega
        go_wp2
        go_ret
        exact ⟨_, rfl, HO.out, HB.out⟩
  · subst hnl
    have HV := hid (rdB_take hv l.length (by omega))
    have HT := hid (take_wide l l.length l.length (by omega))
    have HL := hid (show (l.take l.length).length ≤ 1000 by rw [List.length_take]; omega)
    clear hv
    go_enter Tryz.func93, Tryz.ntmps93
    go_wp2_with (go_at_call 29; (with_reducible refine (copyB_any _ _ _ HV.out (by have := HL.out; omega)).mono ?_); rintro e w' ⟨v', rfl, hO, hB⟩; obtain ⟨A', c', rfl⟩ := ownB_slice hO; rw [HT.out, tab_length]; rw [HT.out, tab_length] at hO; have HO := hid hO; have HB := hid hB; clear hO hB)
    go_loopg [5] (l.length - l.length) (fun k v5 wr => ∃ (j : Nat) (A1 : Option Addr) (c1 : Nat), v5 = .slice A1 j c1 ∧ l.length ≤ j ∧ j ≤ l.length ∧ k + j = l.length ∧ Hid (OwnB wr w.heap.size (.slice A1 j c1) (tab j fun i => if i < l.length then l.getD i false else eachT i)) ∧ Hid (Below w.heap.size w wr))
    case atStart => exact ⟨l.length, _, _, rfl, by omega, by omega, by omega, HO, HB⟩
    case round =>
      clear HO HB
      obtain ⟨j, A1, c1, rfl, hj1, hj2, hk, HO, HB⟩ := hrel
      by_cases hlt : j < l.length
      · exact absurd hlt (by omega)
      · obtain rfl : j = l.length := by omega
        go_wp2
        go_ret
        exact ⟨_, rfl, HO.out, HB.out⟩
  · have HV := hid (rdB_take hv l.length (by omega))
    have HT := hid (take_wide l n l.length (by omega))
    have HL := hid (show (l.take l.length).length ≤ 1000 by rw [List.length_take]; omega)
    clear hv
    go_enter Tryz.func93, Tryz.ntmps93
    go_wp2_with (go_at_call 29; (with_reducible refine (copyB_any _ _ _ HV.out (by have := HL.out; omega)).mono ?_); rintro e w' ⟨v', rfl, hO, hB⟩; obtain ⟨A', c', rfl⟩ := ownB_slice hO; rw [HT.out, tab_length]; rw [HT.out, tab_length] at hO; have HO := hid hO; have HB := hid hB; clear hO hB)
    go_loopg [5] (n - l.length) (fun k v5 wr => ∃ (j : Nat) (A1 : Option Addr) (c1 : Nat), v5 = .slice A1 j c1 ∧ l.length ≤ j ∧ j ≤ n ∧ k + j = n ∧ Hid (OwnB wr w.heap.size (.slice A1 j c1) (tab j fun i => if i < l.length then l.getD i false else eachT i)) ∧ Hid (Below w.heap.size w wr))
    case atStart => exact ⟨l.length, _, _, rfl, by omega, by omega, by omega, HO, HB⟩
    case round =>
      clear HO HB
      obtain ⟨j, A1, c1, rfl, hj1, hj2, hk, HO, HB⟩ := hrel
      by_cases hlt : j < n
      · have hlt2 : (j : Int) < (n : Int) := by omega
        have HF := hid (show (fun i => if i < l.length then l.getD i false else eachT i) j = eachT j by simp only; rw [if_neg (by omega)])
        by_cases h8 : (j : Int) % 8 = 0
        all_goals
          go_wp2_with (at_builtin; go_must (refine wp_app rfl _ _ 36 rfl w.heap.size 4 (.bool false) 1 1 Tryz.underlying36 infoB rfl (by decide) _ j _ rfl ((own_shape HO.out (tab_length _ _)).alloc _) (some ⟨wr.heap.size, 0, none⟩) 1 1 [.bool _] rfl rfl (fun _ => ⟨_, _, rfl, cell_one⟩) (one_bool _) (by omega) (by omega) (Nat.le_trans HB.out.size (by simp)) ?_); intro v' w1 hown hg; obtain ⟨A2, c2, rfl⟩ := own_slice hown; have HO1 := hid hown; have HG := hid hg; clear hown hg)
          go_roundg (gk - 1)
          case measure => omega
          case rel => exact ⟨j + 1, _, _, rfl, by omega, by omega, by omega, hid (own_tab_succ HO1.out (by rw [HF.out]; simp [eachT]; omega)), hid (below_of_grown (alloc_below HB.out _) HG.out (fun k hk => (HO.out.lt k hk).1))⟩
      · obtain rfl : j = n := by omega
        go_wp2
        go_ret
        exact ⟨_, rfl, HO.out, HB.out⟩

theorem ownB_lower {w w' : World} {base base' : Nat} {v : Value} {l : List Bool} (h : OwnB w base v l) (hb : base' ≤ base) : OwnB w base' v l := by
  obtain ⟨h1, h | ⟨g, cap, cur, rfl, hg, r⟩⟩ := h
  · exact ⟨h1, .inl h⟩
  · exact ⟨h1, .inr ⟨g, cap, cur, rfl, by omega, r⟩⟩
set_option maxHeartbeats 1000000 in
theorem bools_any (l : List Bool) (v : Value) (base : Nat) (w : World) (hO : OwnB w base v l) (hl : l.length ≤ 1048576) :
    Calls Tryz.prog 85 #[v] w fun e w' => e = .returned (.tuple #[]) ∧ Below base w w' := by
  by_cases h0 : l.length = 0
  · obtain ⟨A, c, rfl⟩ := ownB_slice hO
    rw [h0]
    clear hO
    go_enter Tryz.func85, Tryz.ntmps85
    go_wp2
    go_loopg [2] 0 (fun k v2 wr => v2 = .int .i64 0 ∧ Hid (Below base w wr))
    case atStart => exact ⟨rfl, hid (Below.refl _ _)⟩
    case round =>
      obtain ⟨rfl, HB⟩ := hrel
      go_wp2
      go_end0
      exact ⟨rfl, HB.out⟩
  · obtain ⟨g, cap, rfl⟩ := ownB_at hO (by omega)
    have HG := hid (show base ≤ g from (hO.lt g rfl).1)
    have HO0 := hid hO
    obtain ⟨n, hn⟩ : ∃ n, l.length = n := ⟨_, rfl⟩
    have HN := hid hn
    rw [hn]; rw [hn] at hl h0
    clear hO hn
    go_enter Tryz.func85, Tryz.ntmps85
    go_wp2
    go_loopg [2] n (fun k v2 wr => ∃ (i : Nat) (m : List Bool), v2 = .int .i64 i ∧ i ≤ n ∧ k + i = n ∧ Hid (m.length = n) ∧ Hid (OwnB wr base (.slice (some ⟨g, 0, none⟩) n cap) m) ∧ Hid (Below base w wr))
    case atStart => exact ⟨0, l, rfl, by omega, by omega, HN, by have := HO0.out; rw [HN.out] at this; exact hid this, hid (Below.refl _ _)⟩
    case round =>
      obtain ⟨i, m, rfl, hi, hk, HM, HO, HB⟩ := hrel
      by_cases hlt : i < n
      · have hlt2 : (i : Int) < (n : Int) := by omega
        have hce := ownB_cell HO.out (i := i) (by rw [HM.out]; exact hlt)
        have hfr := ownB_free HO.out i
        go_wp2
        go_roundg (gk - 1)
        case measure => omega
        case rel => exact ⟨i + 1, _, by go_num, by omega, by omega, hid (by rw [List.length_set]; exact HM.out), hid (ownB_set HO.out (by rw [HM.out]; exact hlt) _), hid (HB.out.setCell (p := ⟨g, i, none⟩) HG.out _)⟩
      · have hlt2 : ¬ (i : Int) < (n : Int) := by omega
        go_wp2
        go_end0
        exact ⟨rfl, HB.out⟩

theorem wakes7_ask : askOk (wideT [] 20) 0 1 := by unfold askOk; decide
theorem wakes7_next : nextT (wideT [] 20) 0 1 = 8 := by decide
theorem step_le (l : List Bool) : ∀ (k : Nat) (p n : Int), True ∧ stepT l (-1) k p n ≤ p ∧ True := by
  intro k
  induction k with
  | zero => intro p n; exact ⟨trivial, Int.le_refl _, trivial⟩
  | succ k ih =>
    intro p n
    refine ⟨trivial, ?_, trivial⟩
    rw [stepT]
    split
    · obtain ⟨_, h, _⟩ := ih (p + -1) (if l.getD (p + -1).toNat false = true then n - 1 else n)
      omega
    · exact Int.le_refl _
theorem step_up (l : List Bool) : ∀ (k : Nat) (p : Int), 0 ≤ p → p < l.length → (l.length : Int) ≤ p + k → p ≤ stepT l 1 k p 1 ∧ stepT l 1 k p 1 < l.length ∧ (p < (l.length : Int) - 1 → stepT l 1 k p 1 ≠ p) ∧ (stepT l 1 k p 1 < (l.length : Int) - 1 → l.getD (stepT l 1 k p 1).toNat false = true) ∧ ∀ j : Nat, p < j → (j : Int) < stepT l 1 k p 1 → l.getD j false = false := by
  intro k
  induction k with
  | zero => intro p h0 h1 h2; omega
  | succ k ih =>
    intro p h0 h1 h2
    by_cases hlast : p + 1 < l.length
    · by_cases hx : l.getD (p + 1).toNat false = true
      · have e : stepT l 1 (k + 1) p 1 = p + 1 := by
          rw [stepT, if_pos ⟨by omega, by omega, hlast⟩, if_pos hx]
          cases k with
          | zero => rfl
          | succ k => rw [stepT, if_neg (by omega)]
        rw [e]
        exact ⟨by omega, hlast, fun _ => by omega, fun _ => hx, fun j hj1 hj2 => by omega⟩
      · have e : stepT l 1 (k + 1) p 1 = stepT l 1 k (p + 1) 1 := by rw [stepT, if_pos ⟨by omega, by omega, hlast⟩, if_neg hx]
        rw [e]
        obtain ⟨a1, a2, a3, a4, a5⟩ := ih (p + 1) (by omega) hlast (by omega)
        refine ⟨by omega, a2, fun _ => by omega, a4, fun j hj1 hj2 => ?_⟩
        by_cases hj : (j : Int) = p + 1
        · rw [show j = (p + 1).toNat by omega]; simpa using hx
        · exact a5 j (by omega) hj2
    · have e : stepT l 1 (k + 1) p 1 = p := by rw [stepT, if_neg (by omega)]
      rw [e]
      exact ⟨by omega, h1, fun h => by omega, fun h => by omega, fun j hj1 hj2 => by omega⟩
theorem step_down (l : List Bool) : ∀ (k : Nat) (p : Int), 0 ≤ p → p < l.length → p < k → 0 ≤ stepT l (-1) k p 1 ∧ stepT l (-1) k p 1 ≤ p ∧ (0 < stepT l (-1) k p 1 → stepT l (-1) k p 1 < p → l.getD (stepT l (-1) k p 1).toNat false = true) := by
  intro k
  induction k with
  | zero => intro p h0 h1 h2; omega
  | succ k ih =>
    intro p h0 h1 h2
    by_cases hlast : 0 < p
    · by_cases hx : l.getD (p + -1).toNat false = true
      · have e : stepT l (-1) (k + 1) p 1 = p + -1 := by
          rw [stepT, if_pos ⟨by omega, by omega, by omega⟩, if_pos hx]
          cases k with
          | zero => rfl
          | succ k => rw [stepT, if_neg (by omega)]
        rw [e]
        exact ⟨by omega, by omega, fun _ _ => hx⟩
      · have e : stepT l (-1) (k + 1) p 1 = stepT l (-1) k (p + -1) 1 := by rw [stepT, if_pos ⟨by omega, by omega, by omega⟩, if_neg hx]
        rw [e]
        obtain ⟨a1, a2, a3⟩ := ih (p + -1) (by omega) (by omega) (by omega)
        refine ⟨a1, by omega, fun h4 h5 => ?_⟩
        by_cases hj : stepT l (-1) k (p + -1) 1 = p + -1
        · rw [hj] at h4 ⊢
          exfalso
          cases k with
          | zero => omega
          | succ k =>
            have h6 : p + -1 + -1 < p + -1 := by omega
            rw [stepT, if_pos ⟨by omega, by omega, by omega⟩] at hj
            split at hj
            · cases k with
              | zero => simp only [stepT] at hj; omega
              | succ k => rw [stepT, if_neg (by omega)] at hj; omega
            · obtain ⟨_, a8, _⟩ := step_le l k (p + -1 + -1) 1
              omega
        · exact a3 h4 (by omega)
    · have e : stepT l (-1) (k + 1) p 1 = p := by rw [stepT, if_neg (by omega)]
      rw [e]
      exact ⟨by omega, by omega, fun h => by omega⟩
end Go.Proofs.YtpmfjombfcnhmaaGreatDoor
