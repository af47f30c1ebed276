/- A row, by the reference: may it be? -/
import Derived.Test.YtpmfjombfcnhmaaGreatDoorMay
set_option linter.unusedVariables false
set_option linter.unusedSimpArgs false
namespace Go.Proofs.YtpmfjombfcnhmaaGreatDoor
open Go Go.RowKit

def cellIn (L : List Cell) (i : Nat) : Prop := cellOk (at_ L i) = true ∧
  ((at_ L i).wd = 1 → i + 1 < L.length ∧ (at_ L (i + 1)).wd = 2 ∧ (at_ L (i + 1)).a = (at_ L i).a) ∧ ((at_ L i).wd = 2 → 0 < i ∧ (at_ L (i - 1)).wd = 1)
theorem rowOk_in {L : List Cell} {i : Nat} (h : rowOk L) (hi : i < L.length) : cellIn L i := h.2.2 i hi
theorem at_cells {w W : World} {b off n c i : Nat} {L : List Cell} (hR : ∀ W, Below w.heap.size w W → ∀ i, i < L.length → ∃ b' off', (some ⟨b, off, none⟩ : Option Addr) = some ⟨b', off', none⟩ ∧
    (W.cell? ⟨b', off' + i * 6, none⟩ = some (.int .i64 (at_ L i).rn) ∧ W.cell? ⟨b', off' + i * 6 + 1, none⟩ = some (.string (at_ L i).cb) ∧ W.cell? ⟨b', off' + i * 6 + 2, none⟩ = some (.int .i64 (at_ L i).wd) ∧
     W.cell? ⟨b', off' + i * 6 + 3, none⟩ = some (.int .i64 (at_ L i).a.fg) ∧ W.cell? ⟨b', off' + i * 6 + 4, none⟩ = some (.int .i64 (at_ L i).a.bg) ∧ W.cell? ⟨b', off' + i * 6 + 5, none⟩ = some (.int .i64 (at_ L i).a.fl)))
    (hW : Below w.heap.size w W) (hi : i < L.length) :
    W.cell? ⟨b, off + i * 6 + 2, none⟩ = some (.int .i64 (at_ L i).wd) ∧ W.cell? ⟨b, off + i * 6 + 3, none⟩ = some (.int .i64 (at_ L i).a.fg) ∧ W.cell? ⟨b, off + i * 6 + 4, none⟩ = some (.int .i64 (at_ L i).a.bg) ∧ W.cell? ⟨b, off + i * 6 + 5, none⟩ = some (.int .i64 (at_ L i).a.fl) := by
  obtain ⟨b', off', hA, -, -, c2, c3, c4, c5⟩ := hR W hW i hi
  simp only [Option.some.injEq, Addr.mk.injEq] at hA
  obtain ⟨rfl, rfl, -⟩ := hA
  exact ⟨c2, c3, c4, c5⟩

set_option maxHeartbeats 1000000 in
theorem rrow_is {L : List Cell} {x : Bool} (h : rowB L = x) (v : Value) (w : World) (hv : RdC w v L) (hl : L.length ≤ 1048576) (ht : txtOk L) (hT : U8 w) :
    Calls Tryz.prog 74 #[v] w fun e w' => e = .returned (.bool x) ∧ Below w.heap.size w w' := by
  obtain ⟨A, c, rfl, -, hR⟩ := hv.open_
  obtain ⟨y, hy⟩ : ∃ y, decide (1 ≤ (L.length : Int) ∧ (L.length : Int) ≤ 40) = y := ⟨_, rfl⟩
  cases y with
  | false =>
    have hx : x = false := by rw [← h]; exact rowB_no fun ⟨a, b, _⟩ => by have := of_decide_eq_false hy; omega
    subst hx
    have HY := hid hy
    clear h hy
    go_enter Tryz.func74, Tryz.ntmps74
    go_wp2_with (go_at_call 40; (with_reducible refine (between_num_is HY.out _).mono ?_); rintro e w' ⟨rfl, rfl⟩)
    all_goals (go_ret; exact ⟨rfl, Below.refl _ _⟩)
  | true =>
    have H := hid h
    have HT : Hid (∀ W, Below w.heap.size w W → U8 W) := hid fun W hW => hT.below hW
    have HX := hid ht
    have HR := hid hR
    have HY := hid hy
    clear h hT ht hR hy hv
    go_enter Tryz.func74, Tryz.ntmps74
    go_wp2_with (go_at_call 40; (with_reducible refine (between_num_is HY.out _).mono ?_); rintro e w' ⟨rfl, rfl⟩)
    go_loopg [3] (L.length + 1) (fun gk s3 wx => ∃ i : Nat, s3 = .int .i64 i ∧ i ≤ L.length ∧ gk = L.length + 1 - i ∧ Hid (Below w.heap.size w wx) ∧ Hid (∀ k, k < i → cellIn L k))
    case atStart => exact ⟨0, rfl, by omega, by omega, hid (Below.refl _ _), hid (fun i hi => by omega)⟩
    case round =>
      obtain ⟨i, rfl, hi, hgk, HB, HP⟩ := hrel
      by_cases hlt : i < L.length
      · have hltz : (i : Int) < (L.length : Int) := by omega
        obtain ⟨b, off, rfl, c0, c1, c2, c3, c4, c5⟩ := HR.out wr HB.out i hlt
        have HAT : Hid (∀ W k, Below wr.heap.size wr W → k < L.length → _) := hid fun W k hW hk => at_cells (W := W) (i := k) (n := 0) (c := 0) HR.out (HB.out.trans (hW.mono HB.out.size)) hk
        obtain ⟨y, hy⟩ : ∃ y, cellOk (at_ L i) = y := ⟨_, rfl⟩
        have HC := hid hy
        clear hy
        have ho : Calls Tryz.prog 108 #[.agg #[.int .i64 (at_ L i).rn, .string (at_ L i).cb, .int .i64 (at_ L i).wd, .int .i64 (at_ L i).a.fg, .int .i64 (at_ L i).a.bg, .int .i64 (at_ L i).a.fl]] wr fun e w' => e = .returned (.bool y) ∧ Below wr.heap.size wr w' := rcell_is HC.out wr (HX.out i hlt) (HT.out wr HB.out)
        have FIN : ∀ wq : World, Below wr.heap.size wr wq → Below w.heap.size w wq := fun wq hq => HB.out.trans (hq.mono HB.out.size)
        cases y with
        | false =>
          have hx : x = false := by rw [← H.out]; exact rowB_no fun h => by have := (rowOk_in h hlt).1; rw [HC.out] at this; cases this
          subst hx
          go_wp2_with (go_at_call 108; (with_reducible refine ho.mono ?_); rintro e w4 ⟨rfl, hB⟩; have HB4 := hid (FIN _ hB); clear hB)
          all_goals (go_ret; exact ⟨rfl, HB4.out⟩)
        | true =>
          go_wp2_with (go_at_call 108; (with_reducible refine ho.mono ?_); rintro e w4 ⟨rfl, hB⟩; have HB4 := hid (FIN _ hB); obtain ⟨d2, d3, d4, d5⟩ := HAT.out _ i hB hlt; have HW4 := hid hB; clear hB c0 c1 c2 c3 c4 c5 ho FIN)
          have hs : IntKind.i64.wrap ((i : Int) + 1) = (i : Int) + 1 := IntWalk.i64_in _ (by omega)
          by_cases hw : (at_ L i).wd = 1
          · have hw1 := wd_eq hw
            have hw2 : ((at_ L i).wd == 2) = false := wd_ne (by omega)
            have HW := hid hw
            clear hw
            by_cases he : i + 1 = L.length
            · have hez : ((i : Int) + 1 == (L.length : Int)) = true := wd_eq (by omega)
              have hx : x = false := by rw [← H.out]; exact rowB_no fun h => by have := ((rowOk_in h hlt).2.1 HW.out).1; omega
              subst hx
              clear he
              go_quiet (fail)
              go_wp2
              go_ret
              exact ⟨rfl, HB4.out.trans ((drewN_below (Below.refl _ _) nq).mono HB4.out.size)⟩
            · have hez : ((i : Int) + 1 == (L.length : Int)) = false := wd_ne (by omega)
              have hlt2 : i + 1 < L.length := by omega
              have hlt2z : (i : Int) + 1 < (L.length : Int) := by omega
              have hi1 : (0 : Int) ≤ (i : Int) + 1 := by omega
              have hi2 : ((i : Int) + 1).toNat = i + 1 := by omega
              obtain ⟨e2, e3, e4, e5⟩ := HAT.out _ (i + 1) HW4.out hlt2
              clear he
              by_cases hv : (at_ L (i + 1)).wd = 2
              · have hv2 := wd_eq hv
                have hv3 := wd_nn hv
                have HV := hid hv
                clear hv
                have hne : ∀ W, (binOp .neq 33 (.agg #[.int .i64 (at_ L (i + 1)).a.fg, .int .i64 (at_ L (i + 1)).a.bg, .int .i64 (at_ L (i + 1)).a.fl]) (.agg #[.int .i64 (at_ L i).a.fg, .int .i64 (at_ L i).a.bg, .int .i64 (at_ L i).a.fl])).run Tryz.prog W = _ := fun W => neq_attr (at_ L (i + 1)).a (at_ L i).a W
                obtain ⟨z, hz⟩ : ∃ z, attrSame (at_ L (i + 1)).a (at_ L i).a = z := ⟨_, rfl⟩
                rw [hz] at hne
                have HZ := hid hz
                clear hz
                cases z with
                | false =>
                  have hx : x = false := by
                    rw [← H.out]; refine rowB_no fun h => ?_
                    have := attrSame_iff.2 ((rowOk_in h hlt).2.1 HW.out).2.2
                    rw [HZ.out] at this
                    cases this
                  subst hx
                  go_quiet (fail)
                  go_wp2
                  go_ret
                  exact ⟨rfl, HB4.out.trans ((drewN_below (Below.refl _ _) nq).mono HB4.out.size)⟩
                | true =>
                  go_quiet (fail)
                  clear hne e2 e3 e4 e5
                  go_wp2
                  go_roundg (gk - 1)
                  case measure => omega
                  case rel =>
                    refine ⟨i + 1, by go_num, by omega, by omega, hid (HB4.out.trans ((drewN_below (Below.refl _ _) _).mono HB4.out.size)), hid fun k hk => ?_⟩
                    rcases Nat.lt_succ_iff_lt_or_eq.1 hk with hk | rfl
                    · exact HP.out k hk
                    · exact ⟨HC.out, fun _ => ⟨hlt2, HV.out, attrSame_iff.1 HZ.out⟩, fun h => by have := HW.out; omega⟩
              · have hv2 := wd_ne hv
                have hv3 := wd_nt hv
                have hx : x = false := by rw [← H.out]; exact rowB_no fun h => hv ((rowOk_in h hlt).2.1 HW.out).2.1
                subst hx
                clear hv
                go_quiet (fail)
                go_wp2
                go_ret
                exact ⟨rfl, HB4.out.trans ((drewN_below (Below.refl _ _) nq).mono HB4.out.size)⟩
          · have hw1 := wd_ne hw
            have HW := hid hw
            clear hw
            go_quiet (fail)
            by_cases hv : (at_ L i).wd = 2
            · have hv2 := wd_eq hv
              have hv3 := wd_nn hv
              have HV := hid hv
              clear hv
              cases i with
              | zero =>
                have hx : x = false := by rw [← H.out]; exact rowB_no fun h => by have := ((rowOk_in h hlt).2.2 HV.out).1; omega
                subst hx
                go_wp2
                go_ret
                exact ⟨rfl, HB4.out.trans ((drewN_below (Below.refl _ _) _).mono HB4.out.size)⟩
              | succ j =>
                have hez : (((j + 1 : Nat) : Int) == 0) = false := wd_ne (by omega)
                have hez2 : ((j : Int) + 1 == 0) = false := wd_ne (by omega)
                have hs2 : IntKind.i64.wrap (j : Int) = (j : Int) := IntWalk.i64_in _ (by omega)
                have hj1 : (j : Int) < (L.length : Int) := by omega
                obtain ⟨e2, -, -, -⟩ := HAT.out _ j HW4.out (by omega)
                by_cases hu : (at_ L j).wd = 1
                · have hu2 := wd_eq hu
                  have hu3 := wd_nn hu
                  have HU := hid hu
                  clear hu
                  go_wp2
                  go_roundg (gk - 1)
                  case measure => omega
                  case rel =>
                    refine ⟨j + 1 + 1, by go_num, by omega, by omega, hid (HB4.out.trans ((drewN_below (Below.refl _ _) _).mono HB4.out.size)), hid fun k hk => ?_⟩
                    rcases Nat.lt_succ_iff_lt_or_eq.1 hk with hk | rfl
                    · exact HP.out k hk
                    · exact ⟨HC.out, fun h => absurd h HW.out, fun _ => ⟨by omega, HU.out⟩⟩
                · have hu2 := wd_ne hu
                  have hu3 := wd_nt hu
                  have hx : x = false := by rw [← H.out]; exact rowB_no fun h => hu ((rowOk_in h hlt).2.2 HV.out).2
                  subst hx
                  clear hu
                  go_wp2
                  go_ret
                  exact ⟨rfl, HB4.out.trans ((drewN_below (Below.refl _ _) _).mono HB4.out.size)⟩
            · have hv2 := wd_ne hv
              have hv3 := wd_nt hv
              have HV := hid hv
              clear hv
              go_wp2
              go_roundg (gk - 1)
              case measure => omega
              case rel =>
                refine ⟨i + 1, by go_num, by omega, by omega, hid (HB4.out.trans ((drewN_below (Below.refl _ _) _).mono HB4.out.size)), hid fun k hk => ?_⟩
                rcases Nat.lt_succ_iff_lt_or_eq.1 hk with hk | rfl
                · exact HP.out k hk
                · exact ⟨HC.out, fun h => absurd h HW.out, fun h => absurd h HV.out⟩
      · have hie : i = L.length := by omega
        subst hie
        have hltz : ¬ (L.length : Int) < (L.length : Int) := by omega
        have hx : x = true := by
          have := of_decide_eq_true HY.out
          rw [← H.out]; exact rowB_yes ⟨by omega, by omega, HP.out⟩
        subst hx
        go_wp2
        go_ret
        exact ⟨rfl, HB.out⟩
end Go.Proofs.YtpmfjombfcnhmaaGreatDoor
