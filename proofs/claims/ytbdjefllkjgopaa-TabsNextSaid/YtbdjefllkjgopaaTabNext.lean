/- The next stop is behind, and a stop, or the last column: the walk of the law TabsNext. -/
import Derived.Test.YtbdjefllkjgopaaTab
namespace Go.Proofs.Ytbdjefllkjgopaa
open Go Go.RowKit

theorem ask_mk {l : List Bool} {p n : Int} (h : tabsOk l = true) (h0 : 0 ≤ p) (h1 : p < l.length) (h2 : 0 ≤ n) (h3 : n ≤ 9999) : askOk l p n := ⟨h, h0, h1, h2, h3⟩
theorem nextT_facts {l : List Bool} {p x : Int} (hx : nextT l p 1 = x) (h0 : 0 ≤ p) (h1 : p < l.length) : p ≤ x ∧ x < l.length ∧ (p < (l.length : Int) - 1 → x ≠ p) ∧ (x < (l.length : Int) - 1 → l.getD x.toNat false = true) ∧ ∀ j : Nat, p < j → (j : Int) < x → l.getD j false = false := by
  subst hx; exact step_up l l.length p h0 h1 (by omega)
theorem backT_facts {l : List Bool} {p x : Int} (hx : backT l p 1 = x) (h0 : 0 ≤ p) (h1 : p < l.length) : 0 ≤ x ∧ x ≤ p ∧ (0 < x → x < p → l.getD x.toNat false = true) := by
  subst hx; exact step_down l l.length p h0 h1 h1

set_option maxHeartbeats 2000000 in
set_option maxRecDepth 100000 in
theorem tabsNext_walk (vT vL : Value) (l : List Bool) (w : World) (hT : RdB w vT l) (hl : l.length ≤ 140737488351232) :
    Calls Try.prog 4 #[.agg #[vT, vL]] w fun e w' => e = .returned (.bool true) ∧ Below w.heap.size w w' := by
  obtain ⟨A, c, rfl, hc, hcell⟩ := hT.open_
  cases hok : tabsOk l
  · have HC := hid (show (if tabsOk l = true then (0 : Int) else 1) = 1 by rw [hok]; rfl)
    clear hcell hok hT
    go_enter Try.func4, Try.ntmps4
    go_wp2_with (first | (go_at_call 11; (with_reducible refine (check_is HC.out _ _ _ hl).mono ?_); rintro e w' ⟨rfl, rfl⟩) | (go_at_call 10; (with_reducible refine (num7_any _ _).mono ?_); rintro e w' ⟨rfl, rfl⟩))
    all_goals (go_ret; exact ⟨rfl, alloc_below (Below.refl _ _) _⟩)
  · have hl2 : 1 ≤ l.length ∧ l.length ≤ 40 := by simpa [tabsOk] using hok
    have HOK := hid hok
    have HC := hid (show (if tabsOk l = true then (0 : Int) else 1) = 0 by rw [hok]; rfl)
    have HT := hid hT
    have HCE := hid hcell
    have hne : ((l.length : Int) == 0) = false := by rw [beq_eq_false_iff_ne]; omega
    clear hcell hok hT
    go_enter Try.func4, Try.ntmps4
    go_wp2_with (first | (go_at_call 11; (with_reducible refine (check_is HC.out _ _ _ hl).mono ?_); rintro e w' ⟨rfl, rfl⟩) | (go_at_call 10; (with_reducible refine (num7_any _ _).mono ?_); rintro e w' ⟨rfl, rfl⟩))
    go_loopg [4] l.length (fun k v4 wr => ∃ i : Nat, v4 = .int .i64 i ∧ i ≤ l.length ∧ k + i = l.length ∧ Hid (wr.cell? ⟨w.heap.size, 0, none⟩ = some (.slice A l.length c)) ∧ Hid (Below w.heap.size w wr))
    case atStart => exact ⟨0, rfl, by omega, by omega, hid (by rw [cell_new]; rfl), hid (alloc_below (Below.refl _ _) _)⟩
    case round =>
      obtain ⟨i, rfl, hi, hk, HX, HB⟩ := hrel
      obtain ⟨go, hgo⟩ : ∃ go, go = gk := ⟨_, rfl⟩
      subst hgo
      by_cases hlt : i < l.length
      · have hlt2 : (i : Int) ≤ (l.length : Int) - 1 := by omega
        obtain ⟨x, hx⟩ : ∃ x, nextT l i 1 = x := ⟨_, rfl⟩
        obtain ⟨y, hy⟩ : ∃ y, backT l x 1 = y := ⟨_, rfl⟩
        obtain ⟨x1, x2, x3, x4, x5⟩ := nextT_facts hx (by omega) (by omega)
        obtain ⟨y1, y2, y3⟩ := backT_facts hy (by omega) x2
        have HNX := hid hx
        have HNY := hid hy
        have HX3 := hid x3
        have HX4 := hid x4
        have HX5 := hid x5
        have HY3 := hid y3
        have hbox := HX.out
        clear hx hy x3 x4 x5 y3
        have b1 : decide (x < (i : Int)) = false := by rw [decide_eq_false_iff_not]; omega
        have b2 : decide ((l.length : Int) - 1 < x) = false := by rw [decide_eq_false_iff_not]; omega
        have hcx : x < (l.length : Int) - 1 → ∃ b off, A = some ⟨b, off, none⟩ ∧ wr.cell? ⟨b, off + x.toNat, none⟩ = some (.bool true) := fun h => by
          obtain ⟨b, off, hA, hce⟩ := HCE.out wr HB.out x.toNat (by omega)
          rw [HX4.out h] at hce; exact ⟨b, off, hA, hce⟩
        have hcy : (i : Int) < y → y < x → ∃ b off, A = some ⟨b, off, none⟩ ∧ wr.cell? ⟨b, off + y.toNat, none⟩ = some (.bool true) := fun h h2 => by
          obtain ⟨b, off, hA, hce⟩ := HCE.out wr HB.out y.toNat (by omega)
          rw [HY3.out (by omega) h2] at hce; exact ⟨b, off, hA, hce⟩
        have HCX := hid hcx
        have HCY := hid hcy
        clear hcx hcy
        by_cases hA : (i : Int) < (l.length : Int) - 1
        · have b3 : (x == (i : Int)) = false := by rw [beq_eq_false_iff_ne]; have := HX3.out hA; omega
          have hxi : (i : Int) < x := by have := HX3.out hA; omega
          by_cases hB : x < (l.length : Int) - 1
          · obtain ⟨b, off, rfl, hce⟩ := HCX.out hB
            by_cases hC : (i : Int) < y
            · by_cases hD : y < x
              · obtain ⟨b', off', hA', hce'⟩ := HCY.out hC hD
                cases hA'
                go_wp2_with (first | (go_at_call 12; (with_reducible refine (next_good HNX.out _ _ (HT.out.below HB.out) (ask_mk HOK.out (by omega) (by omega) (by omega) (by omega))).mono ?_); rintro e w' ⟨rfl, rfl⟩) | (go_at_call 13; (with_reducible refine (back_good HNY.out _ _ (HT.out.below HB.out) (ask_mk HOK.out (by omega) (by omega) (by omega) (by omega))).mono ?_); rintro e w' ⟨rfl, rfl⟩) | (go_at_call 10; (with_reducible refine (num7_any _ _).mono ?_); rintro e w' ⟨rfl, rfl⟩))
                go_loopg [9] (x.toNat - (i + 1)) (fun k v9 wq => ∃ q : Nat, v9 = .int .i64 q ∧ i < q ∧ k = x.toNat - q ∧ wq = wr)
                case atStart => exact ⟨i + 1, by go_num, by omega, rfl, rfl⟩
                case round =>
                  obtain ⟨q, rfl, hq, hgk, rfl⟩ := hrel
                  by_cases hqx : (q : Int) < x
                  · obtain ⟨b9, off9, hA9, hce9⟩ := HCE.out wr HB.out q (by omega)
                    rw [HX5.out q (by omega) hqx] at hce9
                    first | cases hA9 | subst hA9
                    go_wp2
                    go_roundg (gk - 1)
                    case measure => omega
                    case rel => exact ⟨q + 1, by go_num, by omega, by omega, rfl⟩
                  · go_wp2
                    go_roundg (go - 1)
                    case measure => omega
                    case rel => exact ⟨i + 1, by go_num, by omega, by omega, HX, HB⟩
              · go_wp2_with (first | (go_at_call 12; (with_reducible refine (next_good HNX.out _ _ (HT.out.below HB.out) (ask_mk HOK.out (by omega) (by omega) (by omega) (by omega))).mono ?_); rintro e w' ⟨rfl, rfl⟩) | (go_at_call 13; (with_reducible refine (back_good HNY.out _ _ (HT.out.below HB.out) (ask_mk HOK.out (by omega) (by omega) (by omega) (by omega))).mono ?_); rintro e w' ⟨rfl, rfl⟩) | (go_at_call 10; (with_reducible refine (num7_any _ _).mono ?_); rintro e w' ⟨rfl, rfl⟩))
                go_loopg [9] (x.toNat - (i + 1)) (fun k v9 wq => ∃ q : Nat, v9 = .int .i64 q ∧ i < q ∧ k = x.toNat - q ∧ wq = wr)
                case atStart => exact ⟨i + 1, by go_num, by omega, rfl, rfl⟩
                case round =>
                  obtain ⟨q, rfl, hq, hgk, rfl⟩ := hrel
                  by_cases hqx : (q : Int) < x
                  · obtain ⟨b9, off9, hA9, hce9⟩ := HCE.out wr HB.out q (by omega)
                    rw [HX5.out q (by omega) hqx] at hce9
                    first | cases hA9 | subst hA9
                    go_wp2
                    go_roundg (gk - 1)
                    case measure => omega
                    case rel => exact ⟨q + 1, by go_num, by omega, by omega, rfl⟩
                  · go_wp2
                    go_roundg (go - 1)
                    case measure => omega
                    case rel => exact ⟨i + 1, by go_num, by omega, by omega, HX, HB⟩
            · go_wp2_with (first | (go_at_call 12; (with_reducible refine (next_good HNX.out _ _ (HT.out.below HB.out) (ask_mk HOK.out (by omega) (by omega) (by omega) (by omega))).mono ?_); rintro e w' ⟨rfl, rfl⟩) | (go_at_call 13; (with_reducible refine (back_good HNY.out _ _ (HT.out.below HB.out) (ask_mk HOK.out (by omega) (by omega) (by omega) (by omega))).mono ?_); rintro e w' ⟨rfl, rfl⟩) | (go_at_call 10; (with_reducible refine (num7_any _ _).mono ?_); rintro e w' ⟨rfl, rfl⟩))
              go_loopg [9] (x.toNat - (i + 1)) (fun k v9 wq => ∃ q : Nat, v9 = .int .i64 q ∧ i < q ∧ k = x.toNat - q ∧ wq = wr)
              case atStart => exact ⟨i + 1, by go_num, by omega, rfl, rfl⟩
              case round =>
                obtain ⟨q, rfl, hq, hgk, rfl⟩ := hrel
                by_cases hqx : (q : Int) < x
                · obtain ⟨b9, off9, hA9, hce9⟩ := HCE.out wr HB.out q (by omega)
                  rw [HX5.out q (by omega) hqx] at hce9
                  first | cases hA9 | subst hA9
                  go_wp2
                  go_roundg (gk - 1)
                  case measure => omega
                  case rel => exact ⟨q + 1, by go_num, by omega, by omega, rfl⟩
                · go_wp2
                  go_roundg (go - 1)
                  case measure => omega
                  case rel => exact ⟨i + 1, by go_num, by omega, by omega, HX, HB⟩
          · by_cases hC : (i : Int) < y
            · by_cases hD : y < x
              · obtain ⟨b, off, rfl, hce⟩ := HCY.out hC hD
                go_wp2_with (first | (go_at_call 12; (with_reducible refine (next_good HNX.out _ _ (HT.out.below HB.out) (ask_mk HOK.out (by omega) (by omega) (by omega) (by omega))).mono ?_); rintro e w' ⟨rfl, rfl⟩) | (go_at_call 13; (with_reducible refine (back_good HNY.out _ _ (HT.out.below HB.out) (ask_mk HOK.out (by omega) (by omega) (by omega) (by omega))).mono ?_); rintro e w' ⟨rfl, rfl⟩) | (go_at_call 10; (with_reducible refine (num7_any _ _).mono ?_); rintro e w' ⟨rfl, rfl⟩))
                go_loopg [9] (x.toNat - (i + 1)) (fun k v9 wq => ∃ q : Nat, v9 = .int .i64 q ∧ i < q ∧ k = x.toNat - q ∧ wq = wr)
                case atStart => exact ⟨i + 1, by go_num, by omega, rfl, rfl⟩
                case round =>
                  obtain ⟨q, rfl, hq, hgk, rfl⟩ := hrel
                  by_cases hqx : (q : Int) < x
                  · obtain ⟨b9, off9, hA9, hce9⟩ := HCE.out wr HB.out q (by omega)
                    rw [HX5.out q (by omega) hqx] at hce9
                    first | cases hA9 | subst hA9
                    go_wp2
                    go_roundg (gk - 1)
                    case measure => omega
                    case rel => exact ⟨q + 1, by go_num, by omega, by omega, rfl⟩
                  · go_wp2
                    go_roundg (go - 1)
                    case measure => omega
                    case rel => exact ⟨i + 1, by go_num, by omega, by omega, HX, HB⟩
              · go_wp2_with (first | (go_at_call 12; (with_reducible refine (next_good HNX.out _ _ (HT.out.below HB.out) (ask_mk HOK.out (by omega) (by omega) (by omega) (by omega))).mono ?_); rintro e w' ⟨rfl, rfl⟩) | (go_at_call 13; (with_reducible refine (back_good HNY.out _ _ (HT.out.below HB.out) (ask_mk HOK.out (by omega) (by omega) (by omega) (by omega))).mono ?_); rintro e w' ⟨rfl, rfl⟩) | (go_at_call 10; (with_reducible refine (num7_any _ _).mono ?_); rintro e w' ⟨rfl, rfl⟩))
                go_loopg [9] (x.toNat - (i + 1)) (fun k v9 wq => ∃ q : Nat, v9 = .int .i64 q ∧ i < q ∧ k = x.toNat - q ∧ wq = wr)
                case atStart => exact ⟨i + 1, by go_num, by omega, rfl, rfl⟩
                case round =>
                  obtain ⟨q, rfl, hq, hgk, rfl⟩ := hrel
                  by_cases hqx : (q : Int) < x
                  · obtain ⟨b9, off9, hA9, hce9⟩ := HCE.out wr HB.out q (by omega)
                    rw [HX5.out q (by omega) hqx] at hce9
                    first | cases hA9 | subst hA9
                    go_wp2
                    go_roundg (gk - 1)
                    case measure => omega
                    case rel => exact ⟨q + 1, by go_num, by omega, by omega, rfl⟩
                  · go_wp2
                    go_roundg (go - 1)
                    case measure => omega
                    case rel => exact ⟨i + 1, by go_num, by omega, by omega, HX, HB⟩
            · go_wp2_with (first | (go_at_call 12; (with_reducible refine (next_good HNX.out _ _ (HT.out.below HB.out) (ask_mk HOK.out (by omega) (by omega) (by omega) (by omega))).mono ?_); rintro e w' ⟨rfl, rfl⟩) | (go_at_call 13; (with_reducible refine (back_good HNY.out _ _ (HT.out.below HB.out) (ask_mk HOK.out (by omega) (by omega) (by omega) (by omega))).mono ?_); rintro e w' ⟨rfl, rfl⟩) | (go_at_call 10; (with_reducible refine (num7_any _ _).mono ?_); rintro e w' ⟨rfl, rfl⟩))
              go_loopg [9] (x.toNat - (i + 1)) (fun k v9 wq => ∃ q : Nat, v9 = .int .i64 q ∧ i < q ∧ k = x.toNat - q ∧ wq = wr)
              case atStart => exact ⟨i + 1, by go_num, by omega, rfl, rfl⟩
              case round =>
                obtain ⟨q, rfl, hq, hgk, rfl⟩ := hrel
                by_cases hqx : (q : Int) < x
                · obtain ⟨b9, off9, hA9, hce9⟩ := HCE.out wr HB.out q (by omega)
                  rw [HX5.out q (by omega) hqx] at hce9
                  first | cases hA9 | subst hA9
                  go_wp2
                  go_roundg (gk - 1)
                  case measure => omega
                  case rel => exact ⟨q + 1, by go_num, by omega, by omega, rfl⟩
                · go_wp2
                  go_roundg (go - 1)
                  case measure => omega
                  case rel => exact ⟨i + 1, by go_num, by omega, by omega, HX, HB⟩
        · have hxi : x ≤ (i : Int) := by omega
          go_wp2_with (first | (go_at_call 12; (with_reducible refine (next_good HNX.out _ _ (HT.out.below HB.out) (ask_mk HOK.out (by omega) (by omega) (by omega) (by omega))).mono ?_); rintro e w' ⟨rfl, rfl⟩) | (go_at_call 13; (with_reducible refine (back_good HNY.out _ _ (HT.out.below HB.out) (ask_mk HOK.out (by omega) (by omega) (by omega) (by omega))).mono ?_); rintro e w' ⟨rfl, rfl⟩) | (go_at_call 10; (with_reducible refine (num7_any _ _).mono ?_); rintro e w' ⟨rfl, rfl⟩))
          go_loopg [9] (x.toNat - (i + 1)) (fun k v9 wq => ∃ q : Nat, v9 = .int .i64 q ∧ i < q ∧ k = x.toNat - q ∧ wq = wr)
          case atStart => exact ⟨i + 1, by go_num, by omega, rfl, rfl⟩
          case round =>
            obtain ⟨q, rfl, hq, hgk, rfl⟩ := hrel
            by_cases hqx : (q : Int) < x
            · exact absurd hqx (by omega)
            · go_wp2
              go_roundg (go - 1)
              case measure => omega
              case rel => exact ⟨i + 1, by go_num, by omega, by omega, HX, HB⟩
      · have hlt2 : ¬ (i : Int) ≤ (l.length : Int) - 1 := by omega
        go_wp2_with (go_at_call 14; refine (wakes7_any _).mono ?_; rintro e w' ⟨rfl, hB⟩; have HB2 := hid (after HB.out hB); clear hB)
        go_ret
        exact ⟨rfl, HB2.out⟩
end Go.Proofs.Ytbdjefllkjgopaa
