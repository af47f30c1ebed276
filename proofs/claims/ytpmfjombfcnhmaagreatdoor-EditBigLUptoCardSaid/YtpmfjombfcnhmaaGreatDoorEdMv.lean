/- The reference's rows moved come to the program's: a plain law. -/
import Derived.Test.YtpmfjombfcnhmaaGreatDoorEdRef4
set_option linter.unusedVariables false
set_option linter.unusedSimpArgs false
set_option linter.unnecessarySimpa false
namespace Go.Proofs.YtpmfjombfcnhmaaGreatDoor
open Go Go.RowKit Go.Proofs.YtpmfjombfcnhmaaGreatDoorW.PrintLast

theorem lt_rows {x y c q : Nat} (hq : q < c) : x * c + q < y * c ↔ x < y := by
  constructor
  · intro h
    rcases Nat.lt_or_ge x y with h1 | h1
    · exact h1
    · have := Nat.mul_le_mul_right c h1; omega
  · intro h
    have := Nat.mul_le_mul_right c (show x + 1 ≤ y from h)
    rw [Nat.succ_mul] at this
    omega
theorem le_rows {x y c q : Nat} (hq : q < c) : y * c ≤ x * c + q ↔ y ≤ x := by
  have := lt_rows (x := x) (y := y) hq
  omega
theorem at_upL {K : Nat} {a : Attr} {L : List Cell} (hK : K ≤ L.length) {j : Nat} (hj : j < L.length) : at_ (upL K a L) j = if j + K < L.length then at_ L (j + K) else bare a := by
  rw [upL, at_onSub (by simpa using hj)]
  by_cases h : j + K < L.length
  · rw [if_neg (by omega), if_pos h, at_copyL hj, if_pos (by omega), show K + (j - 0) = j + K by omega]
  · rw [if_pos (by omega), if_neg h, at_fillL (by rw [sub_length]; omega)]
theorem at_downL {K : Nat} {a : Attr} {L : List Cell} (hK : K ≤ L.length) {j : Nat} (hj : j < L.length) : at_ (downL K a L) j = if K ≤ j then at_ L (j - K) else bare a := by
  rw [downL, at_onSub (by simpa using hj)]
  by_cases h : K ≤ j
  · rw [if_neg (by omega), if_pos h, at_copyL hj, if_pos (by omega), show 0 + (j - K) = j - K by omega]
  · rw [if_pos (by omega), if_neg h, at_fillL (by rw [sub_length]; omega)]
theorem at_blankL {n i : Nat} {a : Attr} (h : i < n) : at_ (blankL n a) i = bare a := at_tab h
theorem mvTo_up {r c top bot b : Nat} {a : Attr} {M : List Cell} (hM : M.length = r * c) (htb : top ≤ bot) (hbr : bot < r) (hc : 1 ≤ c) (hb : 1 ≤ b) :
    mvTo c top bot b a M r = onSub (top * c) ((bot + 1) * c - top * c) (upL (min b (bot - top + 1) * c) a) M := by
  have hE : (bot + 1) * c ≤ r * c := Nat.mul_le_mul_right _ hbr
  have hT : top * c ≤ (bot + 1) * c := Nat.mul_le_mul_right _ (by omega)
  have hK : min b (bot - top + 1) * c + top * c ≤ (bot + 1) * c := by rw [← Nat.add_mul]; exact Nat.mul_le_mul_right _ (by omega)
  apply ext_at
  · rw [mvTo_length, onSub_length, hM]
  · intro j hj
    rw [mvTo_length] at hj
    have hq : j % c < c := Nat.mod_lt _ (by omega)
    have hjd : j / c * c + j % c = j := by rw [Nat.mul_comm]; exact Nat.div_add_mod j c
    have hi : j / c < r := by
      rcases Nat.lt_or_ge (j / c) r with h | h
      · exact h
      · have := Nat.mul_le_mul_right c h; omega
    generalize j / c = i at hi hjd
    generalize j % c = q at hq hjd
    subst hjd
    have hjM : i * c + q < M.length := by rw [hM]; exact hj
    rw [at_mvTo c top bot b a M r i q hi hq, at_onSub hjM, mvRow]
    have h1 := le_rows (x := i) (y := top) hq
    have h2 := lt_rows (x := i) (y := bot + 1) hq
    by_cases hin : top ≤ i ∧ i ≤ bot
    · have ht1 := h1.2 hin.1
      have ht2 := h2.2 (by omega)
      have cin : top * c ≤ i * c + q ∧ i * c + q < top * c + ((bot + 1) * c - top * c) := by omega
      rw [if_pos hin, if_pos cin, at_upL (by rw [sub_length]; omega) (by rw [sub_length]; omega), sub_length]
      have h3 := lt_rows (x := i + min b (bot - top + 1)) (y := bot + 1) hq
      rw [Nat.add_mul] at h3
      by_cases hf : i + b ≤ bot
      · have hmin : min b (bot - top + 1) = b := by omega
        rw [hmin] at h3 ⊢
        have h4 := h3.2 (by omega)
        have c1 : ¬ ((i : Int) + (b : Int) < (top : Int) ∨ (i : Int) + (b : Int) > (bot : Int)) := by omega
        have c2 : i * c + q - top * c + b * c < (bot + 1) * c - top * c := by omega
        rw [if_neg c1, if_pos c2, sub_at hq, sub_at c2, show ((i : Int) + b).toNat = i + b by omega, Nat.add_mul]
        congr 1
        omega
      · have h4 : ¬ (i * c + min b (bot - top + 1) * c + q < (bot + 1) * c) := fun e => by have := h3.1 e; omega
        have c1 : (i : Int) + (b : Int) < (top : Int) ∨ (i : Int) + (b : Int) > (bot : Int) := by omega
        have c2 : ¬ (i * c + q - top * c + min b (bot - top + 1) * c < (bot + 1) * c - top * c) := by omega
        rw [if_pos c1, if_neg c2, at_blankL hq]
    · rw [if_neg hin, sub_at hq, if_neg]
      rintro ⟨e1, e2⟩
      exact hin ⟨h1.1 e1, by have := h2.1 (by omega); omega⟩
theorem mvTo_down {r c top bot b : Nat} {a : Attr} {M : List Cell} (hM : M.length = r * c) (htb : top ≤ bot) (hbr : bot < r) (hc : 1 ≤ c) (hb : 1 ≤ b) :
    mvTo c top bot (-(b : Int)) a M r = onSub (top * c) ((bot + 1) * c - top * c) (downL (min b (bot - top + 1) * c) a) M := by
  have hE : (bot + 1) * c ≤ r * c := Nat.mul_le_mul_right _ hbr
  have hT : top * c ≤ (bot + 1) * c := Nat.mul_le_mul_right _ (by omega)
  have hK : min b (bot - top + 1) * c + top * c ≤ (bot + 1) * c := by rw [← Nat.add_mul]; exact Nat.mul_le_mul_right _ (by omega)
  apply ext_at
  · rw [mvTo_length, onSub_length, hM]
  · intro j hj
    rw [mvTo_length] at hj
    have hq : j % c < c := Nat.mod_lt _ (by omega)
    have hjd : j / c * c + j % c = j := by rw [Nat.mul_comm]; exact Nat.div_add_mod j c
    have hi : j / c < r := by
      rcases Nat.lt_or_ge (j / c) r with h | h
      · exact h
      · have := Nat.mul_le_mul_right c h; omega
    generalize j / c = i at hi hjd
    generalize j % c = q at hq hjd
    subst hjd
    have hjM : i * c + q < M.length := by rw [hM]; exact hj
    rw [at_mvTo c top bot _ a M r i q hi hq, at_onSub hjM, mvRow]
    have h1 := le_rows (x := i) (y := top) hq
    have h2 := lt_rows (x := i) (y := bot + 1) hq
    by_cases hin : top ≤ i ∧ i ≤ bot
    · have ht1 := h1.2 hin.1
      have ht2 := h2.2 (by omega)
      have cin : top * c ≤ i * c + q ∧ i * c + q < top * c + ((bot + 1) * c - top * c) := by omega
      rw [if_pos hin, if_pos cin, at_downL (by rw [sub_length]; omega) (by rw [sub_length]; omega)]
      have h3 := le_rows (x := i) (y := top + min b (bot - top + 1)) hq
      rw [Nat.add_mul] at h3
      by_cases hf : top + b ≤ i
      · have hmin : min b (bot - top + 1) = b := by omega
        rw [hmin] at h3 ⊢
        have h4 := h3.2 (by omega)
        have h5 : (i - b) * c + b * c = i * c := by rw [← Nat.add_mul]; congr 1; omega
        have c1 : ¬ ((i : Int) + -(b : Int) < (top : Int) ∨ (i : Int) + -(b : Int) > (bot : Int)) := by omega
        have c2 : b * c ≤ i * c + q - top * c := by omega
        rw [if_neg c1, if_pos c2, sub_at hq, sub_at (by omega), show ((i : Int) + -(b : Int)).toNat = i - b by omega]
        congr 1
        omega
      · have h4 : ¬ (top * c + min b (bot - top + 1) * c ≤ i * c + q) := fun e => by have := h3.1 e; omega
        have c1 : (i : Int) + -(b : Int) < (top : Int) ∨ (i : Int) + -(b : Int) > (bot : Int) := by omega
        have c2 : ¬ (min b (bot - top + 1) * c ≤ i * c + q - top * c) := by omega
        rw [if_pos c1, if_neg c2, at_blankL hq]
    · rw [if_neg hin, sub_at hq, if_neg]
      rintro ⟨e1, e2⟩
      exact hin ⟨h1.1 e1, by have := h2.1 (by omega); omega⟩
end Go.Proofs.YtpmfjombfcnhmaaGreatDoor
