/- Cells copied, cloned, compared, written over. -/
import Derived.Test.YtpmfjombfcnhmaaGreatDoorCel
import Derived.Test.YtpmfjombfcnhmaaGreatDoorEq
import Derived.Test.YtpmfjombfcnhmaaGreatDoorShelf
import Derived.Test.YtpmfjombfcnhmaaGreatDoorTab
import Derived.Deep.DeepMust
set_option linter.unusedVariables false
set_option linter.unusedSimpArgs false
namespace Go.Proofs.YtpmfjombfcnhmaaGreatDoor
open Go Go.RowKit

def zcV : Value := .agg #[.int .i64 0, .string ⟨#[]⟩, .int .i64 0, .int .i64 0, .int .i64 0, .int .i64 0]
theorem infoC : (Tryz.prog.info? 73).map (fun i => (i.zero, i.size, i.bytes)) = some (some zcV, 6, 56) := by kernel_rfl
theorem encs_take_succ {L : List Cell} {i : Nat} (hi : i < L.length) : encs (L.take (i + 1)) = encs (L.take i) ++ encs [at_ L i] := by
  rw [← encs_append]
  congr 1
  rw [List.take_succ_eq_append_getElem hi]
  simp [at_, hi]
theorem ownC_push {w : World} {base : Nat} {v : Value} {L : List Cell} {i : Nat} (hi : i < L.length) (h : w.ownsRow base 73 6 v (i + 1) (encs (L.take i) ++ encs [at_ L i])) : OwnC w base v (L.take (i + 1)) := by
  unfold OwnC
  rw [List.length_take, Nat.min_eq_left (by omega), encs_take_succ hi]; exact h
theorem ownC_shape {w : World} {base n : Nat} {v : Value} {L : List Cell} (h : OwnC w base v L) (hn : L.length = n) : w.ownsRow base 73 6 v n (encs L) := by subst hn; exact h
theorem cell_six {w : World} {c : Cell} {t : TypeId} : ∀ (j : Nat) (u : Value), (encs [c])[j]? = some u → (w.alloc (.cells #[.int .i64 c.rn, .string c.cb, .int .i64 c.wd, .int .i64 c.a.fg, .int .i64 c.a.bg, .int .i64 c.a.fl] t)).cell? ⟨w.heap.size, 0 + j, none⟩ = some u := by
  intro j u hj
  rw [Nat.zero_add, cell_new]; rw [encs_single] at hj; simpa using hj

set_option maxHeartbeats 2000000 in
theorem copyC_any (L : List Cell) (v : Value) (w : World) (hv : RdC w v L) (hl : L.length ≤ 1048576) :
    Calls Tryz.prog 54 #[v] w fun e w' => ∃ v', e = .returned v' ∧ OwnC w' w.heap.size v' L ∧ Below w.heap.size w w' := by
  obtain ⟨A, c, rfl, hc, hcell⟩ := hv.open_
  have HC := hid hcell
  clear hcell hv
  go_enter Tryz.func54, Tryz.ntmps54
  go_wp2
  go_loopg [3, 4] L.length (fun k v3 v4 wr => ∃ i : Nat, v4 = .int .i64 i ∧ i ≤ L.length ∧ k + i = L.length ∧ Hid (OwnC wr w.heap.size v3 (L.take i)) ∧ Hid (Below w.heap.size w wr))
  case atStart => exact ⟨0, rfl, by omega, by omega, hid (OwnC.nil _ _), hid (Below.refl _ _)⟩
  case round =>
    obtain ⟨i, rfl, hi, hk, HO, HB⟩ := hrel
    by_cases hlt : i < L.length
    · obtain ⟨b, off, rfl, c0, c1, c2, c3, c4, c5⟩ := HC.out wr HB.out i hlt
      have HT := hid (show (L.take i).length = i by simp; omega)
      have hlt2 : (i : Int) < (L.length : Int) := by omega
      go_wp2_with (at_builtin; go_must (refine wp_app rfl _ _ 29 rfl w.heap.size 73 zcV 6 56 Tryz.underlying29 infoC rfl (by decide) _ i (encs (L.take i)) rfl ((ownC_shape HO.out HT.out).alloc _) (some ⟨wr.heap.size, 0, none⟩) 1 1 (encs [at_ L i]) rfl (by simp) (fun _ => ⟨_, _, rfl, cell_six⟩) (encs_one _) (by omega) (by omega) (Nat.le_trans HB.out.size (by simp)) ?_); intro v' w1 hown hg; have HO1 := hid hown; have HG := hid hg; clear hown hg)
      go_roundg (gk - 1)
      case measure => omega
      case rel => exact ⟨i + 1, by go_num, by omega, by omega, hid (ownC_push hlt HO1.out), hid (below_of_grown (alloc_below HB.out _) HG.out (fun k hk => (HO.out.lt k hk).1))⟩
    · have hlt2 : ¬ (i : Int) < (L.length : Int) := by omega
      go_wp2
      go_ret
      exact ⟨_, rfl, by have := HO.out; rwa [List.take_of_length_le (by omega)] at this, HB.out⟩

theorem rdC_news {w : World} {A : Option Addr} {n c : Nat} {L : List Cell} (h : RdC w (.slice A n c) L) : n = L.length ∧ (0 < n → ∃ b q, A = some ⟨b, q, none⟩ ∧ ∀ j u, (encs L)[j]? = some u → w.cell? ⟨b, q + j, none⟩ = some u) := by
  obtain ⟨A', k, hv, hk, hr⟩ := h
  cases hv
  refine ⟨rfl, fun h0 => ?_⟩
  obtain ⟨b, q, hA, hr⟩ := hr h0
  refine ⟨b, q, hA, fun j u hj => ?_⟩
  have hjl : j < L.length * 6 := by
    rcases Nat.lt_or_ge j (L.length * 6) with h | h
    · exact h
    · rw [List.getElem?_eq_none (by simpa using h)] at hj; cases hj
  rw [encs_get L j hjl] at hj
  cases hj
  have := hr (j / 6) (by omega) (j % 6) (by omega)
  rw [show q + j / 6 * 6 + j % 6 = q + j by omega] at this
  exact this
set_option maxHeartbeats 1000000 in
theorem cloneC_any (L : List Cell) (v : Value) (w : World) (hv : RdC w v L) (hl : L.length ≤ 1048576) :
    Calls Tryz.prog 105 #[v] w fun e w' => ∃ v', e = .returned v' ∧ OwnC w' w.heap.size v' L ∧ Below w.heap.size w w' := by
  obtain ⟨A, c, rfl, hc, _⟩ := hv.open_
  obtain ⟨_, hn2⟩ := rdC_news hv
  have HN := hid hn2
  have HL := hid (encs_one L)
  clear hv hn2
  cases A with
  | none =>
    have h0 : L = [] := by
      cases L with
      | nil => rfl
      | cons x L => obtain ⟨b, q, hA, _⟩ := HN.out (by simp); cases hA
    subst h0
    have hnil := fun wx => Lib.run_eql_slice_nil (P := Tryz.prog) wx 29 73 none 0 c 0 0 Tryz.underlying29
    go_enter Tryz.func105, Tryz.ntmps105
    go_wp2
    go_ret
    exact ⟨_, rfl, OwnC.nil _ _, Below.refl _ _⟩
  | some a =>
    have hnil := fun wx => Lib.run_eql_slice_nil (P := Tryz.prog) wx 29 73 (some a) L.length c 0 0 Tryz.underlying29
    go_enter Tryz.func105, Tryz.ntmps105
    go_wp2_with (at_builtin; go_must (refine wp_app rfl _ _ 29 rfl w.heap.size 73 zcV 6 56 Tryz.underlying29 infoC rfl (by decide) _ 0 [] rfl (World.ownsRow_lit (base := w.heap.size) w #[] 0 (Nat.le_refl _) (by decide) rfl) (some a) L.length c (encs L) rfl (by simp) (fun h0 => let ⟨b, q, hA, hx⟩ := HN.out h0; ⟨b, q, hA, fun j u hj => cell_below (alloc_below (Below.refl _ _) _) (hx j u hj)⟩) HL.out (by omega) (by omega) (by simp) ?_); intro v' w' hown hg; have HO := hid hown; have HG := hid hg; clear hown hg)
    go_ret
    refine ⟨_, rfl, ?_, below_of_grown (alloc_below (Below.refl _ _) _) HG.out (by intro k hk; cases hk; exact Nat.le_refl _)⟩
    have := HO.out
    unfold OwnC
    simpa using this

def cellSame (c d : Cell) : Bool := (c.rn == d.rn && (c.cb.toList == d.cb.toList && (c.wd == d.wd && attrSame c.a d.a)))
theorem cellSame_iff {c d : Cell} : cellSame c d = true ↔ c = d := by
  obtain ⟨c1, c2, c3, c4⟩ := c
  obtain ⟨d1, d2, d3, d4⟩ := d
  simp only [cellSame, Bool.and_eq_true, beq_iff_eq, attrSame_iff, txt_iff, Cell.mk.injEq]
theorem equalIn_cell (d : Nat) (a b : Cell) (w : World) : (Op.equalIn (d + 3) 73 (.agg #[.int .i64 a.rn, .string a.cb, .int .i64 a.wd, .int .i64 a.a.fg, .int .i64 a.a.bg, .int .i64 a.a.fl]) (.agg #[.int .i64 b.rn, .string b.cb, .int .i64 b.wd, .int .i64 b.a.fg, .int .i64 b.a.bg, .int .i64 b.a.fl])).run Tryz.prog w = .ok (cellSame a b) w := by
  rw [run_equalIn_agg w (d + 2) 73 _ _ (by kernel_rfl) (by kernel_rfl)]
  have u3 := Tryz.underlying3
  have u9 := Tryz.underlying9
  have hA := equalIn_attr d a.a b.a
  simp only [Program.fieldsOf, Tryz.underlying73]
  go_simp
  simp only [cellSame]
  by_cases h1 : a.rn = b.rn <;> by_cases h2 : a.cb.toList = b.cb.toList <;> by_cases h3 : a.wd = b.wd <;> cases h4 : attrSame a.a b.a <;> simp [h1, h2, h3]
theorem neq_cell (a b : Cell) (w : World) : (binOp .neq 73 (.agg #[.int .i64 a.rn, .string a.cb, .int .i64 a.wd, .int .i64 a.a.fg, .int .i64 a.a.bg, .int .i64 a.a.fl]) (.agg #[.int .i64 b.rn, .string b.cb, .int .i64 b.wd, .int .i64 b.a.fg, .int .i64 b.a.bg, .int .i64 b.a.fl])).run Tryz.prog w = .ok (.bool (!(cellSame a b))) w := by
  rw [run_neq_struct, equalIn_cell 9997]; rfl

set_option maxHeartbeats 1000000 in
theorem eqC_any (l m : List Cell) (v u : Value) (w : World) (hv : RdC w v l) (hu : RdC w u m) (hl : l.length ≤ 1048576) (hm : m.length ≤ 1048576) :
    Calls Tryz.prog 111 #[v, u] w fun e w' => e = .returned (.bool (decide (l = m))) ∧ Below w.heap.size w w' := by
  obtain ⟨A, c, rfl, hc, hcell⟩ := hv.open_
  obtain ⟨B, d, rfl, hd, hcell2⟩ := hu.open_
  have HC := hid hcell
  have HD := hid hcell2
  obtain ⟨R, hR⟩ : ∃ R, decide (l = m) = R := ⟨_, rfl⟩
  rw [hR]
  have HR := hid hR
  clear hcell hcell2 hv hu hR
  by_cases hlm : l.length = m.length
  · have HE := hid hlm
    have hlm1 : ((l.length : Int) != (m.length : Int)) = false := by simp [hlm]
    clear hlm
    go_enter Tryz.func111, Tryz.ntmps111
    go_wp2
    go_loopg [5] l.length (fun k v5 wr => ∃ i : Nat, v5 = .int .i64 i ∧ i ≤ l.length ∧ k + i = l.length ∧ Hid (l.take i = m.take i) ∧ Hid (Below w.heap.size w wr))
    case atStart => exact ⟨0, rfl, by omega, by omega, hid rfl, hid (Below.refl _ _)⟩
    case round =>
      obtain ⟨i, rfl, hi, hk, HT, HB⟩ := hrel
      by_cases hlt : i < l.length
      · have hlt2 : (i : Int) < (l.length : Int) := by omega
        have him : i < m.length := by have := HE.out; omega
        have hlt3 : (i : Int) < (m.length : Int) := by omega
        obtain ⟨b, off, rfl, c0, c1, c2, c3, c4, c5⟩ := HC.out wr HB.out i hlt
        obtain ⟨b2, off2, rfl, d0, d1, d2, d3, d4, d5⟩ := HD.out wr HB.out i him
        have hne := fun W => neq_cell (at_ l i) (at_ m i) W
        obtain ⟨z, hz⟩ : ∃ z, cellSame (at_ l i) (at_ m i) = z := ⟨_, rfl⟩
        rw [hz] at hne
        have HZ := hid hz
        clear hz
        cases z with
        | false =>
          have hx : R = false := by
            rw [← HR.out]; refine decide_eq_false fun he => ?_
            have := HZ.out
            rw [he, cellSame_iff.2 rfl] at this; cases this
          subst hx
          go_wp2
          go_quiet (fail)
          go_wp2
          go_ret
          exact ⟨rfl, drewN_below HB.out _⟩
        | true =>
          go_wp2
          go_quiet (fail)
          go_wp2
          go_roundg (gk - 1)
          case measure => omega
          case rel => exact ⟨i + 1, by go_num, by omega, by omega, hid (eq_take_succ zc HT.out hlt him (cellSame_iff.1 HZ.out)), hid (drewN_below HB.out _)⟩
      · have hlt2 : ¬ (i : Int) < (l.length : Int) := by omega
        go_wp2
        go_ret
        exact ⟨ret_bool (by rw [← HR.out]; have := HT.out; rw [List.take_of_length_le (by omega), List.take_of_length_le (by have := HE.out; omega)] at this; simp [this]), HB.out⟩
  · have hlm1 : ((l.length : Int) != (m.length : Int)) = true := by simp; omega
    have HE := hid hlm
    clear hlm
    go_enter Tryz.func111, Tryz.ntmps111
    go_wp2
    go_ret
    exact ⟨ret_bool (by rw [← HR.out]; simp; intro h; exact HE.out (by rw [h])), Below.refl _ _⟩

set_option maxHeartbeats 1000000 in
theorem spoilC_any (L : List Cell) (v : Value) (base : Nat) (w : World) (hO : OwnC w base v L) (hl : L.length ≤ 1048576) :
    Calls Tryz.prog 84 #[v] w fun e w' => e = .returned (.tuple #[]) ∧ w.grownBy w' v.ownBlock := by
  by_cases h0 : L.length = 0
  · obtain ⟨A, c, rfl⟩ := hO.slice
    rw [h0]
    clear hO
    go_enter Tryz.func84, Tryz.ntmps84
    go_wp2
    go_loopg [2] 0 (fun k v2 wr => v2 = .int .i64 0 ∧ Hid (w.grownBy wr (Value.slice A 0 c).ownBlock))
    case atStart => exact ⟨rfl, hid (grown_refl _ _)⟩
    case round =>
      obtain ⟨rfl, HB⟩ := hrel
      go_wp2
      go_end0
      exact ⟨rfl, HB.out⟩
  · obtain ⟨g, cap, rfl, hbg, hlc, -, hblk⟩ := hO.blk (by omega)
    have HG := hid hbg
    have HO0 := hid hblk
    obtain ⟨n, hn⟩ : ∃ n, L.length = n := ⟨_, rfl⟩
    have HN := hid hn
    rw [hn]; rw [hn] at hl h0
    clear hO hn hblk
    go_enter Tryz.func84, Tryz.ntmps84
    go_wp2
    go_loopg [2] n (fun k v2 wr => ∃ (i : Nat) (M : List Cell), v2 = .int .i64 i ∧ i ≤ n ∧ k + i = n ∧ Hid (M.length = n) ∧ Hid (Blk wr g (cap * 6) M) ∧ Hid (w.grownBy wr (some g)))
    case atStart => exact ⟨0, L, rfl, by omega, by omega, HN, HO0, hid (grown_refl _ _)⟩
    case round =>
      obtain ⟨i, M, rfl, hi, hk, HM, HO, HB⟩ := hrel
      by_cases hlt : i < n
      · have hlt2 : (i : Int) < (n : Int) := by omega
        obtain ⟨c0, c1, c2, c3, c4, c5⟩ := HO.out.at_ i (by rw [HM.out]; exact hlt) (q := i * 6) rfl
        have hfr := HO.out.free
        go_wp2
        go_roundg (gk - 1)
        case measure => omega
        case rel =>
          refine ⟨i + 1, M.set i ⟨-9, ⟨#[]⟩, 0, ⟨0, 0, 0⟩⟩, by go_num, by omega, by omega, hid (by rw [List.length_set]; exact HM.out), hid (HO.out.set6 i ⟨-9, ⟨#[]⟩, 0, ⟨0, 0, 0⟩⟩ rfl), hid ?_⟩
          exact grown_trans HB.out (grown_six _ _ _ _ _ _ _ _ _)
      · have hlt2 : ¬ (i : Int) < (n : Int) := by omega
        go_wp2
        go_end0
        exact ⟨rfl, HB.out⟩
end Go.Proofs.YtpmfjombfcnhmaaGreatDoor
