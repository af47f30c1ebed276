/- A row: may it be? The program's answer and the reference's. -/
import Derived.Test.YtpmfjombfcnhmaaGreatDoorOne
import Derived.Test.YtpmfjombfcnhmaaGreatDoorEq
set_option linter.unusedVariables false
set_option linter.unusedSimpArgs false
namespace Go.Proofs.YtpmfjombfcnhmaaGreatDoor
open Go Go.RowKit

/-- a row may be -/
def rowOk (L : List Cell) : Prop := 1 ≤ L.length ∧ L.length ≤ 40 ∧ ∀ i, i < L.length → cellOk (at_ L i) = true ∧
  ((at_ L i).wd = 1 → i + 1 < L.length ∧ (at_ L (i + 1)).wd = 2 ∧ (at_ L (i + 1)).a = (at_ L i).a) ∧ ((at_ L i).wd = 2 → 0 < i ∧ (at_ L (i - 1)).wd = 1)
noncomputable def rowB (L : List Cell) : Bool := @decide (rowOk L) (Classical.propDecidable _)
theorem rowB_yes {L : List Cell} (h : rowOk L) : rowB L = true := by unfold rowB; exact @decide_eq_true _ (Classical.propDecidable _) h
theorem rowB_no {L : List Cell} (h : ¬ rowOk L) : rowB L = false := by unfold rowB; exact @decide_eq_false _ (Classical.propDecidable _) h
theorem rowB_iff {L : List Cell} : rowB L = true ↔ rowOk L := by
  by_cases h : rowOk L
  · simp [rowB_yes h, h]
  · simp [rowB_no h, h]
/-- texts of cells are not greater than a bound -/
def txtOk (L : List Cell) : Prop := ∀ i, i < L.length → (at_ L i).cb.size ≤ 1048576
/-- of the first of a row's cells -/
def rowPre (L : List Cell) (n : Nat) : Prop := ∀ i, i < n → cellOk (at_ L i) = true ∧ ((at_ L i).wd = 2 ↔ (0 < i ∧ (at_ L (i - 1)).wd = 1)) ∧ (0 < i → (at_ L (i - 1)).wd = 1 → (at_ L i).a = (at_ L (i - 1)).a)
theorem rowOk_pre {L : List Cell} (h : rowOk L) : rowPre L L.length := fun i hi => by
  obtain ⟨-, -, h⟩ := h
  obtain ⟨a, b, c⟩ := h i hi
  refine ⟨a, ⟨c, fun ⟨h0, h1⟩ => ?_⟩, fun h0 h1 => ?_⟩
  · have := (h (i - 1) (by omega)).2.1 h1
    rw [show i - 1 + 1 = i by omega] at this; exact this.2.1
  · have := (h (i - 1) (by omega)).2.1 h1
    rw [show i - 1 + 1 = i by omega] at this; exact this.2.2
theorem rowOk_of {L : List Cell} (h1 : 1 ≤ L.length) (h2 : L.length ≤ 40) (h : rowPre L L.length) (hl : (at_ L (L.length - 1)).wd ≠ 1) : rowOk L := by
  refine ⟨h1, h2, fun i hi => ?_⟩
  obtain ⟨a, b, c⟩ := h i hi
  refine ⟨a, fun hw => ?_, b.1⟩
  have hlt : i + 1 < L.length := by
    rcases Nat.lt_or_ge (i + 1) L.length with h | h
    · exact h
    · exact absurd (by rw [show L.length - 1 = i by omega]; exact hw) hl
  obtain ⟨a2, b2, c2⟩ := h (i + 1) hlt
  rw [Nat.add_sub_cancel] at b2 c2
  exact ⟨hlt, b2.2 ⟨by omega, hw⟩, c2 (by omega) hw⟩

theorem rowPre_succ {L : List Cell} {i : Nat} (h : rowPre L i) (h1 : cellOk (at_ L i) = true) (h2 : (at_ L i).wd = 2 ↔ (0 < i ∧ (at_ L (i - 1)).wd = 1)) (h3 : 0 < i → (at_ L (i - 1)).wd = 1 → (at_ L i).a = (at_ L (i - 1)).a) : rowPre L (i + 1) := fun k hk => by
  rcases Nat.lt_succ_iff_lt_or_eq.1 hk with hk | rfl
  · exact h k hk
  · exact ⟨h1, h2, h3⟩
theorem wd_eq {a b : Int} (h : a = b) : (a == b) = true := by simp [h]
theorem wd_nn {a b : Int} (h : a = b) : (a != b) = false := by simp [h]
theorem wd_nt {a b : Int} (h : ¬ a = b) : (a != b) = true := by simp [h]
theorem wd_ne {a b : Int} (h : ¬ a = b) : (a == b) = false := beq_eq_false_iff_ne.2 h

set_option maxHeartbeats 1000000 in
theorem mayRow_is {L : List Cell} {x : Bool} (h : rowB L = x) (v : Value) (w : World) (hv : RdC w v L) (hl : L.length ≤ 1048576) (ht : txtOk L) (hT : U8 w) :
    Calls Tryz.prog 95 #[v] w fun e w' => e = .returned (.bool x) ∧ Below w.heap.size w w' := by
  by_cases hn : L.length < 1 ∨ 40 < L.length
  · have hx : x = false := by rw [← h]; exact rowB_no fun ⟨a, b, _⟩ => by omega
    subst hx
    clear h
    obtain ⟨A, c, rfl, -, -⟩ := hv.open_
    by_cases h1 : L.length < 1
    · have h1z : (L.length : Int) < 1 := by omega
      clear hn
      go_enter Tryz.func95, Tryz.ntmps95
      go_wp2
      all_goals (go_ret; exact ⟨rfl, Below.refl _ _⟩)
    · have h1z : (1 : Int) ≤ (L.length : Int) := by omega
      have h2z : (40 : Int) < (L.length : Int) := by omega
      clear hn
      go_enter Tryz.func95, Tryz.ntmps95
      go_wp2
      all_goals (go_ret; exact ⟨rfl, Below.refl _ _⟩)
  · have h1z : (1 : Int) ≤ (L.length : Int) := by omega
    have h2z : (L.length : Int) ≤ 40 := by omega
    obtain ⟨A, c, rfl, -, hR⟩ := hv.open_
    have H := hid h
    have HT : Hid (∀ W, Below w.heap.size w W → U8 W) := hid fun W hW => hT.below hW
    have HX := hid ht
    have HR := hid hR
    have HN := hid hn
    clear h hT ht hR hn hv
    go_enter Tryz.func95, Tryz.ntmps95
    go_wp2
    go_loopg [3, 4, 5, 16] (L.length + 1) (fun gk s3 s4 s5 s16 wx => ∃ (i : Nat) (f : Bool), s16 = .int .i64 i ∧ s3 = .bool f ∧ i ≤ L.length ∧ gk = L.length + 1 - i ∧ Hid (decide (0 < i ∧ (at_ L (i - 1)).wd = 1) = f) ∧ Hid (Below w.heap.size w wx) ∧ Hid (rowPre L i))
    case atStart => exact ⟨0, false, rfl, rfl, by omega, by omega, hid (by simp), hid (Below.refl _ _), hid (fun i hi => by omega)⟩
    case round =>
      obtain ⟨i, f, rfl, rfl, hi, hgk, HF, HB, HP⟩ := hrel
      by_cases hlt : i < L.length
      · have hltz : (i : Int) < (L.length : Int) := by omega
        obtain ⟨b, off, rfl, c0, c1, c2, c3, c4, c5⟩ := HR.out wr HB.out i hlt
        obtain ⟨y, hy⟩ : ∃ y, cellOk (at_ L i) = y := ⟨_, rfl⟩
        have HY := hid hy
        clear hy
        have HO : Hid (∀ W, Below wr.heap.size wr W → Calls Tryz.prog 113 #[.agg #[.int .i64 (at_ L i).rn, .string (at_ L i).cb, .int .i64 (at_ L i).wd, .int .i64 (at_ L i).a.fg, .int .i64 (at_ L i).a.bg, .int .i64 (at_ L i).a.fl]] W fun e w' => e = .returned (.bool y) ∧ Below W.heap.size W w') :=
          hid fun W hW => one_is HY.out W (by have := HX.out i hlt; omega) (HT.out W (HB.out.trans (hW.mono HB.out.size)))
        go_wp2_with (fail)
        clear c0 c1 c2 c3 c4 c5
        have HCC : Hid (∀ W, Below (newC (at_ L i) wr).heap.size (newC (at_ L i) wr) W → _) := hid fun W hW => newC_cells (at_ L i) hW
        have HNB : Hid (Below wr.heap.size wr (newC (at_ L i) wr)) := hid (alloc_below (Below.refl _ _) _)
        obtain ⟨wn, hwn⟩ : ∃ wn, wn = newC (at_ L i) wr := ⟨_, rfl⟩
        change Code.wp _ _ _ _ (newC (at_ L i) wr)
        rw [← hwn] at HCC HNB ⊢
        clear hwn
        have hcc : ∀ x : After wn, x.W.cell? ⟨wr.heap.size, 0, none⟩ = some (.int .i64 (at_ L i).rn) ∧ x.W.cell? ⟨wr.heap.size, 1, none⟩ = some (.string (at_ L i).cb) ∧ x.W.cell? ⟨wr.heap.size, 2, none⟩ = some (.int .i64 (at_ L i).wd) ∧ x.W.cell? ⟨wr.heap.size, 3, none⟩ = some (.int .i64 (at_ L i).a.fg) ∧ x.W.cell? ⟨wr.heap.size, 4, none⟩ = some (.int .i64 (at_ L i).a.bg) ∧ x.W.cell? ⟨wr.heap.size, 5, none⟩ = some (.int .i64 (at_ L i).a.fl) := fun x => HCC.out _ x.h
        have hc0 := fun x => (hcc x).1
        have hc1 := fun x => (hcc x).2.1
        have hc2 := fun x => (hcc x).2.2.1
        have hc3 := fun x => (hcc x).2.2.2.1
        have hc4 := fun x => (hcc x).2.2.2.2.1
        have hc5 := fun x => (hcc x).2.2.2.2.2
        have HO2 : Hid (∀ x : After wn, Calls _ _ _ x.W _) := hid fun x => HO.out x.W (HNB.out.trans (x.h.mono HNB.out.size))
        clear hcc
        cases y with
        | false =>
          have hx : x = false := by rw [← H.out]; exact rowB_no fun h => by have := (h.2.2 i hlt).1; rw [HY.out] at this; cases this
          subst hx
          refine wp_region_after (w0 := wn) (Below.refl _ _) (by kernel_rfl) (by kernel_rfl) ?_
          repeat (go_big_quiet_step ((go_at_call 113; with_reducible exact after_call _ (HO2.out _))))
          refine wpQuiet_nil ?_
          rintro _ ⟨⟨wq, hB4⟩, rfl⟩
          have HB4 := hid hB4
          clear hB4 hc0 hc1 hc2 hc3 hc4 hc5
          go_wp2
          go_ret
          exact ⟨rfl, HB.out.trans ((HNB.out.trans (HB4.out.mono HNB.out.size)).mono HB.out.size)⟩
        | true =>
          have FIN : ∀ wq : World, Below wn.heap.size wn wq → Below w.heap.size w wq := fun wq hq => HB.out.trans ((HNB.out.trans (hq.mono HNB.out.size)).mono HB.out.size)
          cases f with
          | false =>
            by_cases hw : (at_ L i).wd = 2
            · have hw2 := wd_eq hw
              have hx : x = false := by
                rw [← H.out]; refine rowB_no fun h => ?_
                have hp := (rowOk_pre h i hlt).2.1
                exact absurd (hp.1 hw) (of_decide_eq_false HF.out)
              subst hx
              clear hw
              refine wp_region_after (w0 := wn) (Below.refl _ _) (by kernel_rfl) (by kernel_rfl) ?_
              repeat (go_big_quiet_step ((go_at_call 113; with_reducible exact after_call _ (HO2.out _))))
              refine wpQuiet_nil ?_
              rintro _ ⟨⟨wq, hB4⟩, rfl⟩
              have HB4 := hid (FIN _ hB4)
              clear hB4 hc0 hc1 hc2 hc3 hc4 hc5 FIN
              go_wp2
              go_ret
              exact ⟨rfl, HB4.out⟩
            · have hw2 := wd_ne hw
              have HW := hid hw
              clear hw
              refine wp_region_after (w0 := wn) (Below.refl _ _) (by kernel_rfl) (by kernel_rfl) ?_
              repeat (go_big_quiet_step ((go_at_call 113; with_reducible exact after_call _ (HO2.out _))))
              refine wpQuiet_nil ?_
              rintro _ ⟨⟨wq, hB4⟩, rfl⟩
              obtain ⟨d0, d1, d2, d3, d4, d5⟩ := HCC.out _ hB4
              have HB4 := hid (FIN _ hB4)
              clear hB4 hc0 hc1 hc2 hc3 hc4 hc5 d0 d1 d3 d4 d5 FIN
              go_wp2
              go_roundg (gk - 1)
              case measure => omega
              case rel =>
                have hf := of_decide_eq_false HF.out
                exact ⟨i + 1, (at_ L i).wd == 1, by go_num, rfl, by omega, by omega, hid (by rw [Bool.eq_iff_iff]; simp), HB4, hid (rowPre_succ HP.out HY.out ⟨fun h => absurd h HW.out, fun h => absurd h hf⟩ fun h0 h1 => absurd ⟨h0, h1⟩ hf)⟩
          | true =>
            obtain ⟨k, rfl⟩ : ∃ k, i = k + 1 := by
              have := of_decide_eq_true HF.out
              exact ⟨i - 1, by omega⟩
            by_cases hw : (at_ L (k + 1)).wd = 2
            · have hw2 := wd_eq hw
              have HW := hid hw
              clear hw
              have hpv : ∀ x : After wn, x.W.cell? ⟨b, off + k * 6 + 3, none⟩ = some (.int .i64 (at_ L k).a.fg) ∧ x.W.cell? ⟨b, off + k * 6 + 4, none⟩ = some (.int .i64 (at_ L k).a.bg) ∧ x.W.cell? ⟨b, off + k * 6 + 5, none⟩ = some (.int .i64 (at_ L k).a.fl) := fun x => by
                obtain ⟨b', off', hA, -, -, -, c3, c4, c5⟩ := HR.out x.W (FIN _ x.h) k (by omega)
                simp only [Option.some.injEq, Addr.mk.injEq] at hA
                obtain ⟨rfl, rfl, -⟩ := hA
                exact ⟨c3, c4, c5⟩
              have hp3 := fun x => (hpv x).1
              have hp4 := fun x => (hpv x).2.1
              have hp5 := fun x => (hpv x).2.2
              clear hpv
              have hs : IntKind.i64.wrap (k : Int) = (k : Int) := IntWalk.i64_in _ (by omega)
              have hk1 : (k : Int) < (L.length : Int) := by omega
              have hne : ∀ W, (binOp .neq 33 (.agg #[.int .i64 (at_ L (k + 1)).a.fg, .int .i64 (at_ L (k + 1)).a.bg, .int .i64 (at_ L (k + 1)).a.fl]) (.agg #[.int .i64 (at_ L k).a.fg, .int .i64 (at_ L k).a.bg, .int .i64 (at_ L k).a.fl])).run Tryz.prog W = _ := fun W => neq_attr (at_ L (k + 1)).a (at_ L k).a W
              obtain ⟨z, hz⟩ : ∃ z, attrSame (at_ L (k + 1)).a (at_ L k).a = z := ⟨_, rfl⟩
              rw [hz] at hne
              have HZ := hid hz
              clear hz
              cases z with
              | false =>
                have hx : x = false := by
                  rw [← H.out]; refine rowB_no fun h => ?_
                  have hp := (rowOk_pre h (k + 1) hlt).2.2 (of_decide_eq_true HF.out).1 (of_decide_eq_true HF.out).2
                  have := attrSame_iff.2 hp
                  rw [Nat.add_sub_cancel, HZ.out] at this
                  cases this
                subst hx
                refine wp_region_after (w0 := wn) (Below.refl _ _) (by kernel_rfl) (by kernel_rfl) ?_
                repeat (go_big_quiet_step ((go_at_call 113; with_reducible exact after_call _ (HO2.out _))))
                refine wpQuiet_nil ?_
                rintro _ ⟨⟨wq, hB4⟩, rfl⟩
                have HB4 := hid (FIN _ hB4)
                clear hB4 hc0 hc1 hc2 hc3 hc4 hc5 FIN hne hp3 hp4 hp5
                go_wp2
                go_ret
                exact ⟨rfl, HB4.out⟩
              | true =>
                refine wp_region_after (w0 := wn) (Below.refl _ _) (by kernel_rfl) (by kernel_rfl) ?_
                repeat (go_big_quiet_step ((go_at_call 113; with_reducible exact after_call _ (HO2.out _))))
                refine wpQuiet_nil ?_
                rintro _ ⟨⟨wq, hB4⟩, rfl⟩
                obtain ⟨d0, d1, d2, d3, d4, d5⟩ := HCC.out _ hB4
                have HB4 := hid (FIN _ hB4)
                clear hB4 hc0 hc1 hc2 hc3 hc4 hc5 d0 d1 d3 d4 d5 FIN hne hp3 hp4 hp5
                go_wp2
                go_roundg (gk - 1)
                case measure => omega
                case rel =>
                  have hf := of_decide_eq_true HF.out
                  exact ⟨k + 1 + 1, (at_ L (k + 1)).wd == 1, by go_num, rfl, by omega, by omega, hid (by rw [Bool.eq_iff_iff]; simp), HB4, hid (rowPre_succ HP.out HY.out ⟨fun _ => hf, fun _ => HW.out⟩ fun _ _ => attrSame_iff.1 (by rw [Nat.add_sub_cancel]; exact HZ.out))⟩
            · have hw2 := wd_ne hw
              have hx : x = false := by
                rw [← H.out]; refine rowB_no fun h => ?_
                have hp := (rowOk_pre h (k + 1) hlt).2.1
                exact absurd (hp.2 (of_decide_eq_true HF.out)) hw
              subst hx
              clear hw
              refine wp_region_after (w0 := wn) (Below.refl _ _) (by kernel_rfl) (by kernel_rfl) ?_
              repeat (go_big_quiet_step ((go_at_call 113; with_reducible exact after_call _ (HO2.out _))))
              refine wpQuiet_nil ?_
              rintro _ ⟨⟨wq, hB4⟩, rfl⟩
              have HB4 := hid (FIN _ hB4)
              clear hB4 hc0 hc1 hc2 hc3 hc4 hc5 FIN
              go_wp2
              go_ret
              exact ⟨rfl, HB4.out⟩
      · have hie : i = L.length := by omega
        subst hie
        have hltz : ¬ (L.length : Int) < (L.length : Int) := by omega
        have hx : x = !f := by
          rw [← H.out, ← HF.out]
          have hn := HN.out
          by_cases hw : (at_ L (L.length - 1)).wd = 1
          · rw [rowB_no fun h => absurd ((h.2.2 (L.length - 1) (by omega)).2.1 hw).1 (by omega)]
            simp [hw]; omega
          · rw [rowB_yes (rowOk_of (by omega) (by omega) HP.out hw)]
            simp [hw]
        subst hx
        go_wp2
        go_ret
        exact ⟨rfl, HB.out⟩
end Go.Proofs.YtpmfjombfcnhmaaGreatDoor
