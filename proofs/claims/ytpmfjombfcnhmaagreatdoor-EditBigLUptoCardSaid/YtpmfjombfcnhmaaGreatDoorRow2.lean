/- Cells of a row: cutting, copying, comparing: each call's contract. -/
import Derived.Test.YtpmfjombfcnhmaaGreatDoorRow
import Derived.Deep.DeepCutAuto
import Derived.Deep.CutBlock
set_option linter.unusedVariables false
set_option linter.unusedSimpArgs false
set_option linter.unnecessarySimpa false
namespace Go.Proofs.YtpmfjombfcnhmaaGreatDoor
open Go Go.RowKit

/-- a row parted at a place -/
def cutL (p : Int) (L : List Cell) : List Cell := if 0 < p ∧ p < L.length ∧ (at_ L p.toNat).wd = 2 then tab L.length (fun j => if j + 1 = p.toNat ∨ j = p.toNat then bare (at_ L j).a else at_ L j) else L
@[simp] theorem cutL_length (p : Int) (L : List Cell) : (cutL p L).length = L.length := by unfold cutL; split <;> simp
theorem cut_two {M : List Cell} {o n k : Nat} (hon : o + n ≤ M.length) (h0 : k + 1 < n) (hw : (at_ M (o + (k + 1))).wd = 2) :
    (M.set (o + k) (bare (at_ M (o + k)).a)).set (o + (k + 1)) (bare (at_ M (o + (k + 1))).a) = onSub o n (cutL ((k : Int) + 1)) M := by
  apply ext_at
  · simp
  · intro j hj
    simp only [List.length_set] at hj
    rw [onSub, at_tab hj]
    have ht : ((k : Int) + 1).toNat = k + 1 := by omega
    have hc : cutL ((k : Int) + 1) (sub o n M) = tab n (fun j => if j + 1 = k + 1 ∨ j = k + 1 then bare (at_ (sub o n M) j).a else at_ (sub o n M) j) := by
      rw [cutL, if_pos ⟨by omega, by simp; omega, by rw [ht, sub_at h0]; exact hw⟩, ht, sub_length]
    rw [hc]
    by_cases h : o ≤ j ∧ j < o + n
    · rw [if_pos h, at_tab (by omega), sub_at (by omega), show o + (j - o) = j by omega]
      by_cases h1 : j = o + (k + 1)
      · subst h1; rw [if_pos (by omega), at_set_same (by simpa using hj)]
      · rw [at_set_ne (by omega)]
        by_cases h2 : j = o + k
        · subst h2; rw [if_pos (by omega), at_set_same hj]
        · rw [at_set_ne (by omega), if_neg (by omega)]
    · rw [if_neg h, at_set_ne (by omega), at_set_ne (by omega)]
theorem onSub_id {o n : Nat} {g : List Cell → List Cell} {M : List Cell} (h : g (sub o n M) = sub o n M) : onSub o n g M = M := by
  rw [onSub, h]
  refine Eq.trans (tab_congr fun j hj => ?_) (tab_at M)
  by_cases h1 : o ≤ j ∧ j < o + n
  · rw [if_pos h1, sub_at (by omega), show o + (j - o) = j by omega]
  · rw [if_neg h1]

set_option maxHeartbeats 2000000 in
theorem cut_yes (M : List Cell) (b N o n c k : Nat) (w : World) (hb : Blk w b N M) (hon : o + n ≤ M.length) (hm : M.length ≤ 1000000) (h0 : k + 1 < n) (hw : (at_ M (o + (k + 1))).wd = 2) :
    Calls Tryz.prog 106 #[.slice (some ⟨b, o * 6, none⟩) n c, .int .i64 ((k : Int) + 1)] w fun e w' => e = .returned (.tuple #[]) ∧ Blk w' b N (onSub o n (cutL ((k : Int) + 1)) M) ∧ w.grownBy w' (some b) := by
  have HC := hid (cut_two hon h0 hw)
  have HBK := hid hb
  have HX := hid fun W (hW : Below w.heap.size w W) => (hb.below hW).at_ (q := o * 6 + k * 6) (o + k) (by omega)
  have HY := hid fun W (hW : Below w.heap.size w W) => (hb.below hW).at_ (q := o * 6 + (k + 1) * 6) (o + (k + 1)) (by omega)
  have HF := hid fun W (hW : Below w.heap.size w W) => (hb.below hW).free
  have hx := HX.out w (Below.refl _ _)
  have hy := HY.out w (Below.refl _ _)
  have hfr := HF.out w (Below.refl _ _)
  have hw' : ((at_ M (o + (k + 1))).wd == 2) = true := by simp [hw]
  clear hw hb
  go_enter Tryz.func106, Tryz.ntmps106
  go_wp2
  have hs : IntKind.i64.wrap (k : Int) = (k : Int) := IntWalk.i64_in _ (by omega)
  have hk1 : (k : Int) < (n : Int) := by omega
  have hk2 : (0 : Int) ≤ (k : Int) + 1 := by omega
  have hk3 : (k : Int) + 1 < (n : Int) := by omega
  have hk4 : ((k : Int) + 1).toNat = k + 1 := by omega
  have hB0 : Below w.heap.size w w.drew := (Below.refl _ _).drew
  go_region_with (first | (go_simp; go_at_call 119; (with_reducible refine (bare_any (at_ M (o + k)).a _).mono ?_); rintro e w' ⟨rfl, hb⟩; have hB := after (w := w) (by assumption) hb; clear hb; have hX := HX.out _ hB; have hY := HY.out _ hB; have hF := HF.out _ hB) | (go_simp; go_at_call 119; (with_reducible refine (bare_any (at_ M (o + (k + 1))).a _).mono ?_); rintro e w' ⟨rfl, hb⟩; have hB := after (w := w) (by assumption) hb; clear hb; have hX := HX.out _ hB; have hY := HY.out _ hB; have hF := HF.out _ hB))
  all_goals
    have HB := hid (by assumption : Below w.heap.size w _)
    go_wp2
    go_end0
    refine ⟨rfl, ?_, grown_trans (grown_of_below HB.out _) (grown_trans (grown_six _ _ _ _ _ _ _ _ _) (grown_six _ _ _ _ _ _ _ _ _))⟩
    rw [← HC.out]
    exact ((HBK.out.below HB.out).set6 (q := o * 6 + k * 6) (o + k) (bare (at_ M (o + k)).a) (by omega)).set6 (q := o * 6 + (k + 1) * 6) (o + (k + 1)) (bare (at_ M (o + (k + 1))).a) (by omega)

def cutsAt (o n : Nat) (M : List Cell) (p : Int) : Prop := 0 < p ∧ p < n ∧ (at_ M (o + p.toNat)).wd = 2
theorem cut_none {o n : Nat} {M : List Cell} {p : Int} (h : ¬ cutsAt o n M p) : onSub o n (cutL p) M = M := by
  refine onSub_id ?_
  rw [cutL, if_neg]
  rintro ⟨h1, h2, h3⟩
  rw [sub_length] at h2
  rw [sub_at (by omega)] at h3
  exact h ⟨h1, h2, h3⟩
theorem cut_no (M : List Cell) (b N o n c : Nat) (p : Int) (w : World) (hb : Blk w b N M) (hon : o + n ≤ M.length) (hm : M.length ≤ 1000000) (h : ¬ cutsAt o n M p) :
    Calls Tryz.prog 106 #[.slice (some ⟨b, o * 6, none⟩) n c, .int .i64 p] w fun e w' => e = .returned (.tuple #[]) ∧ w = w' := by
  by_cases h1 : 0 < p ∧ p < (n : Int)
  · obtain ⟨h1, h2⟩ := h1
    obtain ⟨k, rfl⟩ : ∃ k : Nat, p = (k : Int) := ⟨p.toNat, by omega⟩
    have hy := hb.at_ (q := o * 6 + k * 6) (o + k) (by omega)
    have hw' : ((at_ M (o + k)).wd == 2) = false := by
      rw [beq_eq_false_iff_ne]; intro e; exact h ⟨h1, h2, by simpa using e⟩
    clear hb h
    go_enter Tryz.func106, Tryz.ntmps106
    go_wp2
    go_end0
    exact ⟨rfl, rfl⟩
  · clear hb h
    go_enter Tryz.func106, Tryz.ntmps106
    go_wp2
    all_goals (go_end0; exact ⟨rfl, rfl⟩)
theorem cut_any (M : List Cell) (b N o n c : Nat) (p : Int) (w : World) (hb : Blk w b N M) (hon : o + n ≤ M.length) (hm : M.length ≤ 1000000) :
    Calls Tryz.prog 106 #[.slice (some ⟨b, o * 6, none⟩) n c, .int .i64 p] w fun e w' => e = .returned (.tuple #[]) ∧ Blk w' b N (onSub o n (cutL p) M) ∧ w.grownBy w' (some b) := by
  by_cases h : cutsAt o n M p
  · obtain ⟨h1, h2, h3⟩ := h
    obtain ⟨k, rfl⟩ : ∃ k : Nat, p = (k : Int) + 1 := ⟨p.toNat - 1, by omega⟩
    exact cut_yes M b N o n c k w hb hon hm (by omega) (by rw [show ((k : Int) + 1).toNat = k + 1 by omega] at h3; exact h3)
  · refine (cut_no M b N o n c p w hb hon hm h).mono fun e w' ⟨he, hw⟩ => ?_
    subst hw
    exact ⟨he, by rw [cut_none h]; exact hb, grown_refl _ _⟩

set_option maxHeartbeats 2000000 in
theorem rcut_yes (M : List Cell) (b N o n c k : Nat) (w : World) (hb : Blk w b N M) (hon : o + n ≤ M.length) (hm : M.length ≤ 1000000) (h0 : k + 1 < n) (hw : (at_ M (o + (k + 1))).wd = 2) :
    Calls Tryz.prog 78 #[.slice (some ⟨b, o * 6, none⟩) n c, .int .i64 ((k : Int) + 1)] w fun e w' => e = .returned (.tuple #[]) ∧ Blk w' b N (onSub o n (cutL ((k : Int) + 1)) M) ∧ w.grownBy w' (some b) := by
  have HC := hid (cut_two hon h0 hw)
  have HBK := hid hb
  have HX := hid fun W (hW : Below w.heap.size w W) => (hb.below hW).at_ (q := o * 6 + k * 6) (o + k) (by omega)
  have HF := hid fun W (hW : Below w.heap.size w W) => (hb.below hW).free
  have hx := HX.out w (Below.refl _ _)
  have hy := hb.at_ (q := o * 6 + (k + 1) * 6) (o + (k + 1)) (by omega)
  have hw' : ((at_ M (o + (k + 1))).wd == 2) = true := by simp [hw]
  clear hw hb
  go_enter Tryz.func78, Tryz.ntmps78
  go_upto_region 1 with (fail)
  go_cut [] (fun wc => Hid (Blk wc b N (M.set (o + k) (bare (at_ M (o + k)).a))) ∧ Hid (w.grownBy wc (some b)))
  case first =>
    go_wp2_with (go_at_call 79; (with_reducible refine (rblank_any (at_ M (o + k)).a _).mono ?_); rintro e w' ⟨rfl, hb⟩; have hX := HX.out _ hb; have hF := HF.out _ hb; have HB := hid hb; clear hb)
    go_meet
    case rel => exact ⟨hid ((HBK.out.below HB.out).set6 (q := o * 6 + k * 6) (o + k) (bare (at_ M (o + k)).a) (by omega)), hid (grown_trans (grown_of_below HB.out _) (grown_six _ _ _ _ _ _ _ _ _))⟩
  case rest =>
    clear hx hy
    obtain ⟨HBK1, HG⟩ := hcut
    have HX1 := hid fun W (hW : Below wc.heap.size wc W) => (HBK1.out.below hW).at_ (q := o * 6 + (k + 1) * 6) (o + (k + 1)) (by simp; omega)
    rw [at_set_ne (by omega)] at HX1
    have HF1 := hid fun W (hW : Below wc.heap.size wc W) => (HBK1.out.below hW).free
    have hx := HX1.out wc (Below.refl _ _)
    go_wp2_with (go_at_call 79; (with_reducible refine (rblank_any (at_ M (o + (k + 1))).a _).mono ?_); rintro e w' ⟨rfl, hb⟩; have hX := HX1.out _ hb; have hF := HF1.out _ hb; have HB := hid hb; clear hb)
    go_end0
    refine ⟨rfl, ?_, grown_trans HG.out (grown_trans (grown_of_below HB.out _) (grown_six _ _ _ _ _ _ _ _ _))⟩
    rw [← HC.out]
    exact (HBK1.out.below HB.out).set6 (q := o * 6 + (k + 1) * 6) (o + (k + 1)) (bare (at_ M (o + (k + 1))).a) (by omega)
theorem rcut_no (M : List Cell) (b N o n c : Nat) (p : Int) (w : World) (hb : Blk w b N M) (hon : o + n ≤ M.length) (hm : M.length ≤ 1000000) (h : ¬ cutsAt o n M p) :
    Calls Tryz.prog 78 #[.slice (some ⟨b, o * 6, none⟩) n c, .int .i64 p] w fun e w' => e = .returned (.tuple #[]) ∧ w = w' := by
  by_cases h1 : 0 < p ∧ p < (n : Int)
  · obtain ⟨h1, h2⟩ := h1
    obtain ⟨k, rfl⟩ : ∃ k : Nat, p = (k : Int) := ⟨p.toNat, by omega⟩
    have hy := hb.at_ (q := o * 6 + k * 6) (o + k) (by omega)
    have hw' : ((at_ M (o + k)).wd == 2) = false := by
      rw [beq_eq_false_iff_ne]; intro e; exact h ⟨h1, h2, by simpa using e⟩
    clear hb h
    go_enter Tryz.func78, Tryz.ntmps78
    go_wp2
    go_end0
    exact ⟨rfl, rfl⟩
  · clear hb h
    go_enter Tryz.func78, Tryz.ntmps78
    go_wp2
    all_goals (go_end0; exact ⟨rfl, rfl⟩)
theorem rcut_any (M : List Cell) (b N o n c : Nat) (p : Int) (w : World) (hb : Blk w b N M) (hon : o + n ≤ M.length) (hm : M.length ≤ 1000000) :
    Calls Tryz.prog 78 #[.slice (some ⟨b, o * 6, none⟩) n c, .int .i64 p] w fun e w' => e = .returned (.tuple #[]) ∧ Blk w' b N (onSub o n (cutL p) M) ∧ w.grownBy w' (some b) := by
  by_cases h : cutsAt o n M p
  · obtain ⟨h1, h2, h3⟩ := h
    obtain ⟨k, rfl⟩ : ∃ k : Nat, p = (k : Int) + 1 := ⟨p.toNat - 1, by omega⟩
    exact rcut_yes M b N o n c k w hb hon hm (by omega) (by rw [show ((k : Int) + 1).toNat = k + 1 by omega] at h3; exact h3)
  · refine (rcut_no M b N o n c p w hb hon hm h).mono fun e w' ⟨he, hw⟩ => ?_
    subst hw
    exact ⟨he, by rw [cut_none h]; exact hb, grown_refl _ _⟩
end Go.Proofs.YtpmfjombfcnhmaaGreatDoor
