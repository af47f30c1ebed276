/- A grid: its rows, may it be? The program's answer and the reference's. -/
import Derived.Test.YtpmfjombfcnhmaaGreatDoorRRow
set_option linter.unusedVariables false
set_option linter.unusedSimpArgs false
namespace Go.Proofs.YtpmfjombfcnhmaaGreatDoor
open Go Go.RowKit

set_option maxHeartbeats 1000000 in
theorem line_any {g k b off n cap i c p : Nat} (w : World) (h1 : w.cell? ⟨g, k + 1, none⟩ = some (.int .i64 (c : Int))) (h2 : w.cell? ⟨g, k + 2, none⟩ = some (.slice (some ⟨b, off, none⟩) n cap)) (hp : i * c = p) (hq : p + c ≤ cap)
    (hi : i ≤ 1000) (hc : c ≤ 1000) (hc1 : 1 ≤ c) :
    Calls Tryz.prog 66 #[.pointer (some ⟨g, k, none⟩), .int .i64 (i : Int)] w fun e w' => e = .returned (.slice (some ⟨b, off + p * 6, none⟩) c c) ∧ Below w.heap.size w w' := by
  have hple : p ≤ 1000000 := by rw [← hp]; exact Nat.le_trans (Nat.mul_le_mul hi hc) (by omega)
  have e1 : (i : Int) * (c : Int) = (p : Int) := by rw [← hp]; push_cast; rfl
  have e2 : ((i : Int) + 1) * (c : Int) = (p : Int) + (c : Int) := by rw [Int.add_mul, e1]; omega
  have s0 : IntKind.i64.wrap ((i : Int) + 1) = (i : Int) + 1 := IntWalk.i64_in _ (by omega)
  have s1 : IntKind.i64.wrap (p : Int) = (p : Int) := IntWalk.i64_in _ (by omega)
  have s2 : IntKind.i64.wrap ((p : Int) + (c : Int)) = (p : Int) + (c : Int) := IntWalk.i64_in _ (by omega)
  have t1 : ((p : Int) + (c : Int)).toNat = p + c := by omega
  have g1 : (0 : Int) ≤ (p : Int) := by omega
  have g2 : (p : Int) ≤ (p : Int) + (c : Int) := by omega
  have g3 : (p : Int) + (c : Int) ≤ (cap : Int) := by omega
  have g4 : ¬ c = 0 := by omega
  clear hp
  go_enter Tryz.func66, Tryz.ntmps66
  go_wp2
  go_quiet (fail)
  go_wp2
  go_ret
  exact ⟨rfl, drewN_below (Below.refl _ _) _⟩

def sidesOk (r c : Int) : Bool := decide (1 ≤ r ∧ r ≤ 40) && decide (1 ≤ c ∧ c ≤ 40)
theorem sidesOk_iff {r c : Int} : sidesOk r c = true ↔ 1 ≤ r ∧ r ≤ 40 ∧ 1 ≤ c ∧ c ≤ 40 := by
  simp [sidesOk]; constructor
  · rintro ⟨⟨a, b⟩, c, d⟩; exact ⟨a, b, c, d⟩
  · rintro ⟨a, b, c, d⟩; exact ⟨⟨a, b⟩, c, d⟩
theorem side_is {n : Int} {x : Bool} (h : decide (1 ≤ n ∧ n ≤ 40) = x) (w : World) : Calls Tryz.prog 112 #[.int .i64 n] w fun e w' => e = .returned (.bool x) ∧ w = w' := by
  have H := hid h
  clear h
  go_enter Tryz.func112, Tryz.ntmps112
  go_wp2
  all_goals (go_ret; exact ⟨ret_bool (by rw [← H.out, Bool.eq_iff_iff]; simp; try omega), rfl⟩)
theorem sides_is {r c : Int} {x : Bool} (h : sidesOk r c = x) (w : World) : Calls Tryz.prog 94 #[.int .i64 r, .int .i64 c] w fun e w' => e = .returned (.bool x) ∧ w = w' := by
  obtain ⟨p, hp⟩ : ∃ v, decide (1 ≤ r ∧ r ≤ 40) = v := ⟨_, rfl⟩
  obtain ⟨q, hq⟩ : ∃ v, decide (1 ≤ c ∧ c ≤ 40) = v := ⟨_, rfl⟩
  have H := hid (show (p && q) = x by rw [← h, sidesOk, hp, hq])
  have HP := hid hp
  have HQ := hid hq
  clear h hp hq
  cases p with
  | false =>
    go_enter Tryz.func94, Tryz.ntmps94
    go_wp2_with (go_at_call 112; (with_reducible refine (side_is HP.out _).mono ?_); rintro e w' ⟨rfl, rfl⟩)
    all_goals (go_ret; exact ⟨ret_bool (by rw [← H.out]; rfl), rfl⟩)
  | true =>
    go_enter Tryz.func94, Tryz.ntmps94
    go_wp2_with (first | (go_at_call 112; (with_reducible refine (side_is HP.out _).mono ?_); rintro e w' ⟨rfl, rfl⟩) | (go_at_call 112; (with_reducible refine (side_is HQ.out _).mono ?_); rintro e w' ⟨rfl, rfl⟩))
    all_goals (go_ret; exact ⟨ret_bool (by rw [← H.out]; rfl), rfl⟩)

/-- a grid may be -/
def gridOk (r c : Int) (L : List Cell) : Prop := sidesOk r c = true ∧ (L.length : Int) = r * c ∧ ∀ i : Nat, (i : Int) < r → rowOk (sub (i * c.toNat) c.toNat L)
noncomputable def gridB (r c : Int) (L : List Cell) : Bool := @decide (gridOk r c L) (Classical.propDecidable _)
theorem gridB_yes {r c : Int} {L : List Cell} (h : gridOk r c L) : gridB r c L = true := by unfold gridB; exact @decide_eq_true _ (Classical.propDecidable _) h
theorem gridB_no {r c : Int} {L : List Cell} (h : ¬ gridOk r c L) : gridB r c L = false := by unfold gridB; exact @decide_eq_false _ (Classical.propDecidable _) h
theorem gridB_iff {r c : Int} {L : List Cell} : gridB r c L = true ↔ gridOk r c L := by
  by_cases h : gridOk r c L
  · simp [gridB_yes h, h]
  · simp [gridB_no h, h]
theorem rdC_sub {w : World} {b off n cap : Nat} {L : List Cell} (h : RdC w (.slice (some ⟨b, off, none⟩) n cap) L) (p c cap' : Nat) (hp : p + c ≤ L.length) (hc : c ≤ cap') : RdC w (.slice (some ⟨b, off + p * 6, none⟩) c cap') (sub p c L) := by
  obtain ⟨A, k, hv, hk, hr⟩ := h
  cases hv
  refine ⟨_, cap', by rw [sub_length], by rw [sub_length]; exact hc, fun h0 => ?_⟩
  rw [sub_length] at h0
  obtain ⟨b', off', hA, hr⟩ := hr (by omega)
  simp only [Option.some.injEq, Addr.mk.injEq] at hA
  obtain ⟨rfl, rfl, -⟩ := hA
  refine ⟨b, off + p * 6, rfl, fun i hi j hj => ?_⟩
  rw [sub_length] at hi
  show _ = some (cellV (at_ (sub p c L) i) j)
  rw [sub_at hi]
  have := hr (p + i) (by omega) j hj
  rw [Nat.add_mul, ← Nat.add_assoc] at this
  exact this
theorem txt_sub {L : List Cell} {p c : Nat} (h : txtOk L) (hp : p + c ≤ L.length) : txtOk (sub p c L) := fun i hi => by
  rw [sub_length] at hi
  rw [sub_at hi]; exact h _ (by omega)
theorem row_in {i r c : Nat} (h : i < r) : i * c + c ≤ r * c := by
  have := Nat.mul_le_mul_right c (show i + 1 ≤ r from h)
  rw [Nat.add_mul, Nat.one_mul] at this; exact this

theorem oneSome {w : World} {A : Option Addr} {n cap : Nat} {L : List Cell} (h : RdC w (.slice A n cap) L) (h0 : 0 < L.length) : ∃ b off, A = some ⟨b, off, none⟩ ∧ n = L.length ∧ n ≤ cap := by
  obtain ⟨A', k, hv, hk, hr⟩ := h
  cases hv
  obtain ⟨b, off, hA, -⟩ := hr h0
  exact ⟨b, off, hA, rfl, hk⟩

/-- a grid that was laid in a new block -/
abbrev newG (r c : Int) (v : Value) (w : World) : World := w.alloc (.cells #[.int .i64 r, .int .i64 c, v] 31)
theorem newG_cells {r c : Int} {v : Value} {w W : World} (h : Below (newG r c v w).heap.size (newG r c v w) W) :
    W.cell? ⟨w.heap.size, 0, none⟩ = some (.int .i64 r) ∧ W.cell? ⟨w.heap.size, 1, none⟩ = some (.int .i64 c) ∧ W.cell? ⟨w.heap.size, 2, none⟩ = some v :=
  ⟨cell_below h (cell_new _ _ _ _ _), cell_below h (cell_new _ _ _ _ _), cell_below h (cell_new _ _ _ _ _)⟩
theorem newG_below {r c : Int} {v : Value} {w W : World} (h : Below (newG r c v w).heap.size (newG r c v w) W) : Below w.heap.size w W := after (alloc_below (Below.refl _ _) _) h

set_option maxHeartbeats 2000000 in
theorem mayGrid_is {r c : Int} {L : List Cell} {x : Bool} (h : gridB r c L = x) (v : Value) (w : World) (hv : RdC w v L) (hl : L.length ≤ 1048576) (ht : txtOk L) (hT : U8 w) :
    Calls Tryz.prog 55 #[.agg #[.int .i64 r, .int .i64 c, v]] w fun e w' => e = .returned (.bool x) ∧ Below w.heap.size w w' := by
  obtain ⟨A, cap, rfl, hcap, -⟩ := hv.open_
  obtain ⟨y, hy⟩ : ∃ y, sidesOk r c = y := ⟨_, rfl⟩
  have HY := hid hy
  cases y with
  | false =>
    have hx : x = false := by rw [← h]; exact gridB_no fun h => by rw [h.1] at hy; cases hy
    subst hx
    clear h hy
    go_enter Tryz.func55, Tryz.ntmps55
    go_wp2_with (go_at_call 94; (with_reducible refine (sides_is HY.out _).mono ?_); rintro e w' ⟨rfl, rfl⟩)
    all_goals (go_ret; exact ⟨rfl, alloc_below (Below.refl _ _) _⟩)
  | true =>
    obtain ⟨hr1, hr2, hc1, hc2⟩ := sidesOk_iff.1 hy
    obtain ⟨rn, rfl⟩ : ∃ rn : Nat, r = rn := ⟨r.toNat, by omega⟩
    obtain ⟨cn, rfl⟩ : ∃ cn : Nat, c = cn := ⟨c.toNat, by omega⟩
    obtain ⟨m, hm⟩ : ∃ m, rn * cn = m := ⟨_, rfl⟩
    have hmle : m ≤ 1600 := by rw [← hm]; exact Nat.le_trans (Nat.mul_le_mul (show rn ≤ 40 by omega) (show cn ≤ 40 by omega)) (by omega)
    have e1 : (rn : Int) * (cn : Int) = (m : Int) := by rw [← hm]; push_cast; rfl
    have s1 : IntKind.i64.wrap (m : Int) = (m : Int) := IntWalk.i64_in _ (by omega)
    by_cases hlen : L.length = m
    · have hlz : ((L.length : Int) != (m : Int)) = false := wd_nn (by omega)
      have HM := hid hm
      have HL := hid hlen
      have hpos : 0 < L.length := by rw [hlen, ← hm]; exact Nat.mul_pos (by omega) (by omega)
      obtain ⟨b, off, rfl, -, -⟩ := oneSome hv hpos
      have H := hid h
      have HT : Hid (∀ W, Below w.heap.size w W → U8 W) := hid fun W hW => hT.below hW
      have HX := hid ht
      have HV : Hid (∀ W, Below w.heap.size w W → RdC W (.slice (some ⟨b, off, none⟩) L.length cap) L) := hid fun W hW => hv.below hW
      clear h hT ht hv hy hm hlen
      go_enter Tryz.func55, Tryz.ntmps55
      go_wp2_with (go_at_call 94; (with_reducible refine (sides_is HY.out _).mono ?_); rintro e w' ⟨rfl, rfl⟩)
      have HNB : Hid (∀ W, Below (newG (rn : Int) (cn : Int) (.slice (some ⟨b, off, none⟩) L.length cap) w).heap.size (newG (rn : Int) (cn : Int) (.slice (some ⟨b, off, none⟩) L.length cap) w) W → _) := hid fun W hW => newG_cells hW
      go_loopg [3, 23] (rn + 1) (fun gk s3 s23 wx => ∃ i : Nat, s23 = .int .i64 i ∧ i ≤ rn ∧ gk = rn + 1 - i ∧ Hid (Below (newG (rn : Int) (cn : Int) (.slice (some ⟨b, off, none⟩) L.length cap) w).heap.size (newG (rn : Int) (cn : Int) (.slice (some ⟨b, off, none⟩) L.length cap) w) wx) ∧ Hid (∀ k, k < i → rowOk (sub (k * cn) cn L)))
      case atStart => exact ⟨0, rfl, by omega, by omega, hid (Below.refl _ _), hid (fun i hi => by omega)⟩
      case round =>
        obtain ⟨i, rfl, hi, hgk, HB, HP⟩ := hrel
        by_cases hlt : i < rn
        · have hltz : (i : Int) < (rn : Int) := by omega
          obtain ⟨c0, c1, c2⟩ := HNB.out wr HB.out
          obtain ⟨p, hp⟩ : ∃ p, i * cn = p := ⟨_, rfl⟩
          have hpc : p + cn ≤ L.length := by rw [HL.out, ← HM.out, ← hp]; exact row_in hlt
          have hline : Calls Tryz.prog 66 #[.pointer (some ⟨w.heap.size, 0, none⟩), .int .i64 (i : Int)] wr _ := line_any (k := 0) (c := cn) (p := p) wr c1 c2 hp (by omega) (by omega) (by omega) (by omega)
          obtain ⟨y, hy⟩ : ∃ y, rowB (sub p cn L) = y := ⟨_, rfl⟩
          have HR : Hid (∀ W, Below wr.heap.size wr W → Calls Tryz.prog 95 #[.slice (some ⟨b, off + p * 6, none⟩) cn cn] W fun e w' => e = .returned (.bool y) ∧ Below W.heap.size W w') := hid fun W hW => by
            have hW2 := newG_below (HB.out.trans (hW.mono HB.out.size))
            exact mayRow_is hy _ W (rdC_sub (HV.out W hW2) p cn cn hpc (Nat.le_refl _)) (by rw [sub_length]; omega) (txt_sub HX.out hpc) (HT.out W hW2)
          have HYR := hid hy
          have HPP := hid hp
          clear hp hy c2
          cases y with
          | false =>
            have hx : x = false := by
              rw [← H.out]; refine gridB_no fun h => ?_
              have := rowB_yes (h.2.2 i (by omega))
              rw [Int.toNat_natCast, HPP.out, HYR.out] at this; cases this
            subst hx
            go_wp2_with (first | (go_at_call 66; (with_reducible refine hline.mono ?_); rintro e w4 ⟨rfl, hB⟩; have HB4 := hid hB; clear hB) | (go_at_call 95; (with_reducible refine (HR.out _ HB4.out).mono ?_); rintro e w5 ⟨rfl, hB⟩; have HB5 := hid (after HB4.out hB); clear hB))
            all_goals (go_ret; exact ⟨rfl, newG_below (HB.out.trans (HB5.out.mono HB.out.size))⟩)
          | true =>
            go_wp2_with (first | (go_at_call 66; (with_reducible refine hline.mono ?_); rintro e w4 ⟨rfl, hB⟩; have HB4 := hid hB; clear hB) | (go_at_call 95; (with_reducible refine (HR.out _ HB4.out).mono ?_); rintro e w5 ⟨rfl, hB⟩; have HB5 := hid (after HB4.out hB); clear hB))
            go_roundg (gk - 1)
            case measure => omega
            case rel =>
              refine ⟨i + 1, by go_num, by omega, by omega, hid (HB.out.trans (HB5.out.mono HB.out.size)), hid fun k hk => ?_⟩
              rcases Nat.lt_succ_iff_lt_or_eq.1 hk with hk | rfl
              · exact HP.out k hk
              · rw [HPP.out]; exact rowB_iff.1 HYR.out
        · have hie : i = rn := by omega
          subst hie
          have hltz : ¬ (i : Int) < (i : Int) := by omega
          have hx : x = true := by
            rw [← H.out]
            exact gridB_yes ⟨HY.out, by rw [HL.out, e1], fun k hk => by rw [Int.toNat_natCast]; exact HP.out k (by omega)⟩
          subst hx
          go_wp2
          go_ret
          exact ⟨rfl, newG_below HB.out⟩
    · have hlz : ((L.length : Int) != (m : Int)) = true := wd_nt (by omega)
      have hx : x = false := by rw [← h]; exact gridB_no fun h => by have := h.2.1; rw [e1] at this; omega
      subst hx
      clear h hy hm hlen
      go_enter Tryz.func55, Tryz.ntmps55
      go_wp2_with (go_at_call 94; (with_reducible refine (sides_is HY.out _).mono ?_); rintro e w' ⟨rfl, rfl⟩)
      all_goals (go_ret; exact ⟨rfl, alloc_below (Below.refl _ _) _⟩)
set_option maxHeartbeats 2000000 in
theorem rgrid_is {r c : Int} {L : List Cell} {x : Bool} (h : gridB r c L = x) (v : Value) (w : World) (hv : RdC w v L) (hl : L.length ≤ 1048576) (ht : txtOk L) (hT : U8 w) :
    Calls Tryz.prog 34 #[.agg #[.int .i64 r, .int .i64 c, v]] w fun e w' => e = .returned (.bool x) ∧ Below w.heap.size w w' := by
  obtain ⟨A, cap, rfl, hcap, -⟩ := hv.open_
  obtain ⟨y, hy⟩ : ∃ y, sidesOk r c = y := ⟨_, rfl⟩
  have HY := hid hy
  obtain ⟨y1, hy1⟩ : ∃ y1, decide ((1 : Int) ≤ r ∧ r ≤ 40) = y1 := ⟨_, rfl⟩
  obtain ⟨y2, hy2⟩ : ∃ y2, decide ((1 : Int) ≤ c ∧ c ≤ 40) = y2 := ⟨_, rfl⟩
  have HY1 := hid hy1
  have HY2 := hid hy2
  have hyy : (y1 && y2) = y := by rw [← hy, sidesOk, hy1, hy2]
  have HYY := hid hyy
  clear hy1 hy2 hyy
  cases y with
  | false =>
    have hx : x = false := by rw [← h]; exact gridB_no fun h => by rw [h.1] at hy; cases hy
    subst hx
    clear h hy
    cases y1 with
    | false =>
      go_enter Tryz.func34, Tryz.ntmps34
      go_wp2_with (first | (go_at_call 40; (with_reducible refine (between_num_is HY1.out _).mono ?_); rintro e w' ⟨rfl, rfl⟩) | (go_at_call 40; (with_reducible refine (between_num_is HY2.out _).mono ?_); rintro e w' ⟨rfl, rfl⟩))
      all_goals (go_ret; exact ⟨rfl, alloc_below (Below.refl _ _) _⟩)
    | true =>
    cases y2 with
    | true => exact absurd HYY.out (by decide)
    | false =>
      go_enter Tryz.func34, Tryz.ntmps34
      go_wp2_with (first | (go_at_call 40; (with_reducible refine (between_num_is HY1.out _).mono ?_); rintro e w' ⟨rfl, rfl⟩) | (go_at_call 40; (with_reducible refine (between_num_is HY2.out _).mono ?_); rintro e w' ⟨rfl, rfl⟩))
      all_goals (go_ret; exact ⟨rfl, alloc_below (Below.refl _ _) _⟩)
  | true =>
    obtain ⟨rfl, rfl⟩ : y1 = true ∧ y2 = true := by have := HYY.out; simpa using this
    obtain ⟨hr1, hr2, hc1, hc2⟩ := sidesOk_iff.1 hy
    obtain ⟨rn, rfl⟩ : ∃ rn : Nat, r = rn := ⟨r.toNat, by omega⟩
    obtain ⟨cn, rfl⟩ : ∃ cn : Nat, c = cn := ⟨c.toNat, by omega⟩
    obtain ⟨m, hm⟩ : ∃ m, rn * cn = m := ⟨_, rfl⟩
    have hmle : m ≤ 1600 := by rw [← hm]; exact Nat.le_trans (Nat.mul_le_mul (show rn ≤ 40 by omega) (show cn ≤ 40 by omega)) (by omega)
    have e1 : (rn : Int) * (cn : Int) = (m : Int) := by rw [← hm]; push_cast; rfl
    have s1 : IntKind.i64.wrap (m : Int) = (m : Int) := IntWalk.i64_in _ (by omega)
    by_cases hlen : L.length = m
    · have hlz : ((L.length : Int) != (m : Int)) = false := wd_nn (by omega)
      have HM := hid hm
      have HL := hid hlen
      have hpos : 0 < L.length := by rw [hlen, ← hm]; exact Nat.mul_pos (by omega) (by omega)
      obtain ⟨b, off, rfl, -, -⟩ := oneSome hv hpos
      have H := hid h
      have HT : Hid (∀ W, Below w.heap.size w W → U8 W) := hid fun W hW => hT.below hW
      have HX := hid ht
      have HV : Hid (∀ W, Below w.heap.size w W → RdC W (.slice (some ⟨b, off, none⟩) L.length cap) L) := hid fun W hW => hv.below hW
      clear h hT ht hv hy hm hlen
      go_enter Tryz.func34, Tryz.ntmps34
      go_wp2_with (first | (go_at_call 40; (with_reducible refine (between_num_is HY1.out _).mono ?_); rintro e w' ⟨rfl, rfl⟩) | (go_at_call 40; (with_reducible refine (between_num_is HY2.out _).mono ?_); rintro e w' ⟨rfl, rfl⟩))
      have HNB : Hid (∀ W, Below (newG (rn : Int) (cn : Int) (.slice (some ⟨b, off, none⟩) L.length cap) w).heap.size (newG (rn : Int) (cn : Int) (.slice (some ⟨b, off, none⟩) L.length cap) w) W → _) := hid fun W hW => newG_cells hW
      go_loopg [3] (rn + 1) (fun gk s3 wx => ∃ i : Nat, s3 = .int .i64 i ∧ i ≤ rn ∧ gk = rn + 1 - i ∧ Hid (Below (newG (rn : Int) (cn : Int) (.slice (some ⟨b, off, none⟩) L.length cap) w).heap.size (newG (rn : Int) (cn : Int) (.slice (some ⟨b, off, none⟩) L.length cap) w) wx) ∧ Hid (∀ k, k < i → rowOk (sub (k * cn) cn L)))
      case atStart => exact ⟨0, rfl, by omega, by omega, hid (Below.refl _ _), hid (fun i hi => by omega)⟩
      case round =>
        obtain ⟨i, rfl, hi, hgk, HB, HP⟩ := hrel
        by_cases hlt : i < rn
        · have hltz : (i : Int) < (rn : Int) := by omega
          obtain ⟨c0, c1, c2⟩ := HNB.out wr HB.out
          obtain ⟨p, hp⟩ : ∃ p, i * cn = p := ⟨_, rfl⟩
          have hpc : p + cn ≤ L.length := by rw [HL.out, ← HM.out, ← hp]; exact row_in hlt
          have hple : p ≤ 1600 := by have := HL.out; omega
          have f1 : (i : Int) * (cn : Int) = (p : Int) := by rw [← hp]; push_cast; rfl
          have f2 : ((i : Int) + 1) * (cn : Int) = (p : Int) + (cn : Int) := by rw [Int.add_mul, f1]; omega
          have s0 : IntKind.i64.wrap ((i : Int) + 1) = (i : Int) + 1 := IntWalk.i64_in _ (by omega)
          have s2 : IntKind.i64.wrap (p : Int) = (p : Int) := IntWalk.i64_in _ (by omega)
          have s3 : IntKind.i64.wrap ((p : Int) + (cn : Int)) = (p : Int) + (cn : Int) := IntWalk.i64_in _ (by omega)
          have t1 : ((p : Int) + (cn : Int)).toNat = p + cn := by omega
          have g1 : (0 : Int) ≤ (p : Int) := by omega
          have g2 : (p : Int) ≤ (p : Int) + (cn : Int) := by omega
          have g3 : (p : Int) + (cn : Int) ≤ (cap : Int) := by omega
          have g4 : ¬ cap - p = 0 := by omega
          obtain ⟨y, hy⟩ : ∃ y, rowB (sub p cn L) = y := ⟨_, rfl⟩
          have HR : Hid (∀ W, Below wr.heap.size wr W → Calls Tryz.prog 74 #[.slice (some ⟨b, off + p * 6, none⟩) cn (cap - p)] W fun e w' => e = .returned (.bool y) ∧ Below W.heap.size W w') := hid fun W hW => by
            have hW2 := newG_below (HB.out.trans (hW.mono HB.out.size))
            exact rrow_is hy _ W (rdC_sub (HV.out W hW2) p cn (cap - p) hpc (by omega)) (by rw [sub_length]; omega) (txt_sub HX.out hpc) (HT.out W hW2)
          have HYR := hid hy
          have HPP := hid hp
          clear hp hy
          cases y with
          | false =>
            have hx : x = false := by
              rw [← H.out]; refine gridB_no fun h => ?_
              have := rowB_yes (h.2.2 i (by omega))
              rw [Int.toNat_natCast, HPP.out, HYR.out] at this; cases this
            subst hx
            go_wp2_with (go_at_call 74; (with_reducible refine (HR.out _ (Below.refl _ _)).mono ?_); rintro e w5 ⟨rfl, hB⟩; have HB5 := hid hB; clear hB)
            all_goals (go_ret; exact ⟨rfl, newG_below (HB.out.trans (HB5.out.mono HB.out.size))⟩)
          | true =>
            go_wp2_with (go_at_call 74; (with_reducible refine (HR.out _ (Below.refl _ _)).mono ?_); rintro e w5 ⟨rfl, hB⟩; have HB5 := hid hB; clear hB)
            go_roundg (gk - 1)
            case measure => omega
            case rel =>
              refine ⟨i + 1, by go_num, by omega, by omega, hid (HB.out.trans (HB5.out.mono HB.out.size)), hid fun k hk => ?_⟩
              rcases Nat.lt_succ_iff_lt_or_eq.1 hk with hk | rfl
              · exact HP.out k hk
              · rw [HPP.out]; exact rowB_iff.1 HYR.out
        · have hie : i = rn := by omega
          subst hie
          obtain ⟨c0, c1, c2⟩ := HNB.out wr HB.out
          have hltz : ¬ (i : Int) < (i : Int) := by omega
          have hx : x = true := by
            rw [← H.out]
            exact gridB_yes ⟨HY.out, by rw [HL.out, e1], fun k hk => by rw [Int.toNat_natCast]; exact HP.out k (by omega)⟩
          subst hx
          go_wp2
          go_ret
          exact ⟨rfl, newG_below HB.out⟩
    · have hlz : ((L.length : Int) != (m : Int)) = true := wd_nt (by omega)
      have hx : x = false := by rw [← h]; exact gridB_no fun h => by have := h.2.1; rw [e1] at this; omega
      subst hx
      clear h hy hm hlen
      go_enter Tryz.func34, Tryz.ntmps34
      go_wp2_with (first | (go_at_call 40; (with_reducible refine (between_num_is HY1.out _).mono ?_); rintro e w' ⟨rfl, rfl⟩) | (go_at_call 40; (with_reducible refine (between_num_is HY2.out _).mono ?_); rintro e w' ⟨rfl, rfl⟩))
      all_goals (go_ret; exact ⟨rfl, alloc_below (Below.refl _ _) _⟩)
end Go.Proofs.YtpmfjombfcnhmaaGreatDoor
