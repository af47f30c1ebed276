/- A cell by itself: may it be? -/
import Derived.Test.YtpmfjombfcnhmaaGreatDoorMark
set_option linter.unusedVariables false
set_option linter.unusedSimpArgs false
namespace Go.Proofs.YtpmfjombfcnhmaaGreatDoor
open Go Go.RowKit

def kindOk (c : Cell) : Bool := decide (c.wd = 0 ∧ widthOf c.rn = 1) || decide (c.wd = 1 ∧ widthOf c.rn = 2) || decide (c.wd = 2 ∧ c.rn = 0 ∧ c.cb = ⟨#[]⟩)
def cellOk (c : Cell) : Bool := attrOk c.a && combOk c.cb && kindOk c

/-- a cell that was laid in a new block -/
abbrev newC (c : Cell) (w : World) : World := w.alloc (.cells #[.int .i64 c.rn, .string c.cb, .int .i64 c.wd, .int .i64 c.a.fg, .int .i64 c.a.bg, .int .i64 c.a.fl] 73)
theorem newC_cells (c : Cell) {w W : World} (h : Below (newC c w).heap.size (newC c w) W) :
    W.cell? ⟨w.heap.size, 0, none⟩ = some (.int .i64 c.rn) ∧ W.cell? ⟨w.heap.size, 1, none⟩ = some (.string c.cb) ∧ W.cell? ⟨w.heap.size, 2, none⟩ = some (.int .i64 c.wd) ∧ W.cell? ⟨w.heap.size, 3, none⟩ = some (.int .i64 c.a.fg) ∧ W.cell? ⟨w.heap.size, 4, none⟩ = some (.int .i64 c.a.bg) ∧ W.cell? ⟨w.heap.size, 5, none⟩ = some (.int .i64 c.a.fl) :=
  ⟨cell_below h (cell_new _ _ _ _ _), cell_below h (cell_new _ _ _ _ _), cell_below h (cell_new _ _ _ _ _), cell_below h (cell_new _ _ _ _ _), cell_below h (cell_new _ _ _ _ _), cell_below h (cell_new _ _ _ _ _)⟩
theorem newC_below (c : Cell) {w W : World} (h : Below (newC c w).heap.size (newC c w) W) : Below w.heap.size w W := after (alloc_below (Below.refl _ _) _) h

set_option maxHeartbeats 1000000 in
theorem one_is {c : Cell} {x : Bool} (h : cellOk c = x) (w : World) (hs : c.cb.size < 9223372036854775807) (hT : U8 w) :
    Calls Tryz.prog 113 #[.agg #[.int .i64 c.rn, .string c.cb, .int .i64 c.wd, .int .i64 c.a.fg, .int .i64 c.a.bg, .int .i64 c.a.fl]] w fun e w' => e = .returned (.bool x) ∧ Below w.heap.size w w' := by
  obtain ⟨p, hp⟩ : ∃ v, attrOk c.a = v := ⟨_, rfl⟩
  obtain ⟨q, hq⟩ : ∃ v, combOk c.cb = v := ⟨_, rfl⟩
  obtain ⟨u, hu⟩ : ∃ v, widthOf c.rn = v := ⟨_, rfl⟩
  have H := hid (show (p && q && (decide (c.wd = 0 ∧ u = 1) || decide (c.wd = 1 ∧ u = 2) || decide (c.wd = 2 ∧ c.rn = 0 ∧ c.cb = ⟨#[]⟩))) = x by rw [← h, cellOk, kindOk, hp, hq, hu])
  have HP := hid hp
  have HQ := hid hq
  have HU := hid hu
  have HT : Hid (∀ W, Below w.heap.size w W → U8 W) := hid fun W hW => hT.below hW
  clear h hp hq hu hT
  have ha : ∀ w1, Calls Tryz.prog 96 #[.agg #[.int .i64 c.a.fg, .int .i64 c.a.bg, .int .i64 c.a.fl]] w1 _ := fun w1 => attr_is HP.out w1
  have hm : ∀ w1, Below w.heap.size w w1 → Calls Tryz.prog 120 #[.string c.cb] w1 _ := fun w1 hw => marked_is HQ.out w1 hs (HT.out w1 hw)
  have hw : ∀ w1, Calls Tryz.prog 61 #[.int .i64 c.rn] w1 _ := fun w1 => of_is HU.out w1
  have HM := hid hm
  clear hm HP HQ HU HT
  go_enter Tryz.func113, Tryz.ntmps113
  go_wp2_with (first | (go_at_call 96; (with_reducible refine (ha _).mono ?_); rintro e w1 ⟨rfl, hB⟩; obtain ⟨c10, c11, c12, -, -, -⟩ := newC_cells c hB; have HB1 := hid hB; clear hB) | (go_at_call 120; (with_reducible refine (HM.out _ (newC_below c HB1.out)).mono ?_); rintro e w2 ⟨rfl, hB⟩; have HB2 := hid (after HB1.out hB); clear hB; obtain ⟨c20, c21, c22, -, -, -⟩ := newC_cells c HB2.out) | (go_at_call 61; (with_reducible refine (hw _).mono ?_); rintro e w3 ⟨rfl, hB⟩; have HB3 := hid (after HB2.out hB); clear hB))
  all_goals (go_ret; refine ⟨ret_bool ?_, by first | exact newC_below c HB3.out | exact newC_below c HB2.out | exact newC_below c HB1.out⟩; rw [← H.out]; clear HM ha hw H; rw [Bool.eq_iff_iff]; simp_all [txt_empty])

/-- the runes of a text, as a slice -/
theorem runes_conv (s : ByteArray) (hs : s.size ≤ 1048576) : ∃ (cp : World → Nat) (RA : World → Array Value), (∀ W, (convert 9 115 (.string s)).run Tryz.prog W = .ok (.slice (some ⟨W.heap.size, 0, none⟩) (runes s).length (cp W)) (W.drew.alloc (.cells (RA W) 21))) ∧
    ∀ W i, i < (runes s).length → (RA W)[i]? = some (.int .i32 ((runes s).getD i 0)) := by
  have hz : (Conv.runesFrom s s.size 0 #[]).size = (runes s).length := by rw [runesFrom_eq]; simp [runes]
  refine ⟨fun W => grownCap W (runes s).length 0 21, fun W => Conv.runesFrom s s.size 0 #[] ++ Array.replicate (grownCap W (runes s).length 0 21 - (runes s).length) (.int .i32 0), fun W => ?_, fun W i hi => ?_⟩
  · have := run_runes_of_string (P := Tryz.prog) W 9 115 21 s Tryz.underlying9 Tryz.underlying115 Tryz.underlying21 (by rw [hz]; have := runes_le s; omega)
    rw [hz] at this
    exact this
  · rw [Array.getElem?_append_left (by omega), runesFrom_eq]
    simp only [List.append_toArray, Array.empty_append, List.getElem?_toArray, List.nil_append, List.getElem?_map]
    show ((runes s)[i]?).map (Value.int .i32) = _
    simp [hi]
theorem runes_range (s : ByteArray) : ∀ (k p : Nat), ∀ r ∈ runesL s k p, 0 ≤ r ∧ r ≤ 2147483647
  | 0, _, r, h => by simp [runesL] at h
  | k + 1, p, r, h => by
    unfold runesL at h
    split at h
    · rcases List.mem_cons.1 h with rfl | h
      · have := decode_le s p; omega
      · exact runes_range s k _ r h
    · simp at h

set_option maxHeartbeats 1000000 in
theorem rcell_is {c : Cell} {x : Bool} (h : cellOk c = x) (w : World) (hs : c.cb.size ≤ 1048576) (hT : U8 w) :
    Calls Tryz.prog 108 #[.agg #[.int .i64 c.rn, .string c.cb, .int .i64 c.wd, .int .i64 c.a.fg, .int .i64 c.a.bg, .int .i64 c.a.fl]] w fun e w' => e = .returned (.bool x) ∧ Below w.heap.size w w' := by
  obtain ⟨p, hp⟩ : ∃ v, attrOk c.a = v := ⟨_, rfl⟩
  obtain ⟨q, hq⟩ : ∃ v, Lib.validD c.cb.data.toList = v := ⟨_, rfl⟩
  obtain ⟨u, hu⟩ : ∃ v, widthOf c.rn = v := ⟨_, rfl⟩
  obtain ⟨rs, hrs⟩ : ∃ v, runes c.cb = v := ⟨_, rfl⟩
  obtain ⟨cp, RA, hcv, hRA⟩ := runes_conv c.cb hs
  rw [hrs] at hcv hRA
  have hrl : rs.length ≤ 1048576 := by rw [← hrs]; have := runes_le c.cb; omega
  have hrr : ∀ i, i < rs.length → 0 ≤ rs.getD i 0 ∧ rs.getD i 0 ≤ 2147483647 := fun i hi => by
    rw [List.getD_eq_getElem?_getD, List.getElem?_eq_getElem hi]
    exact runes_range c.cb c.cb.size 0 _ (by show _ ∈ runes c.cb; rw [hrs]; exact List.getElem_mem hi)
  have H := hid (show (p && (q && decide (rs.length ≤ 2) && rs.all zero0) && (decide (c.wd = 0 ∧ u = 1) || decide (c.wd = 1 ∧ u = 2) || decide (c.wd = 2 ∧ c.rn = 0 ∧ c.cb = ⟨#[]⟩))) = x by rw [← h, cellOk, kindOk, combOk, hp, hq, hu, hrs])
  have HP := hid hp
  have HQ := hid hq
  have HU := hid hu
  have HT : Hid (∀ W, Below w.heap.size w W → U8 W) := hid fun W hW => hT.below hW
  have HR := hid hrr
  have HRA := hid hRA
  clear h hp hq hu hT hrs hrr hRA
  have ha : ∀ w1, Calls Tryz.prog 75 #[.agg #[.int .i64 c.a.fg, .int .i64 c.a.bg, .int .i64 c.a.fl]] w1 _ := fun w1 => rattr_is HP.out w1
  have hm : ∀ w1, Below w.heap.size w w1 → Calls Tryz.prog 77 #[.string c.cb] w1 _ := fun w1 hw => valids_is HQ.out w1 (by omega) (HT.out w1 hw)
  have hw : ∀ w1, Calls Tryz.prog 36 #[.int .i64 c.rn] w1 _ := fun w1 => width_is HU.out w1
  have hw2 : ∀ r w1, Calls Tryz.prog 36 #[.int .i64 r] w1 _ := fun r w1 => width_is (rfl : widthOf r = _) w1
  have HM := hid hm
  have HW2 := hid hw2
  clear hm HP HQ HU HT hw2
  cases p with
  | false =>
    have hx : x = false := by rw [← H.out]; simp
    subst hx
    go_enter Tryz.func108, Tryz.ntmps108
    go_wp2_with (go_at_call 75; (with_reducible refine (ha _).mono ?_); rintro e w1 ⟨rfl, hB⟩; have HB1 := hid hB; clear hB)
    all_goals (go_ret; exact ⟨rfl, newC_below c HB1.out⟩)
  | true =>
  cases q with
  | false =>
    have hx : x = false := by rw [← H.out]; simp
    subst hx
    go_enter Tryz.func108, Tryz.ntmps108
    go_wp2_with (first | (go_at_call 75; (with_reducible refine (ha _).mono ?_); rintro e w1 ⟨rfl, hB⟩; obtain ⟨c10, c11, c12, -, -, -⟩ := newC_cells c hB; have HB1 := hid hB; clear hB) | (go_at_call 77; (with_reducible refine (HM.out _ (newC_below c HB1.out)).mono ?_); rintro e w2 ⟨rfl, hB⟩; have HB2 := hid (after HB1.out hB); clear hB))
    all_goals (go_ret; exact ⟨rfl, newC_below c HB2.out⟩)
  | true =>
    go_enter Tryz.func108, Tryz.ntmps108
    go_wp2_with (first | (go_at_call 75; (with_reducible refine (ha _).mono ?_); rintro e w1 ⟨rfl, hB⟩; obtain ⟨c10, c11, c12, -, -, -⟩ := newC_cells c hB; have HB1 := hid hB; clear hB) | (go_at_call 77; (with_reducible refine (HM.out _ (newC_below c HB1.out)).mono ?_); rintro e w2 ⟨rfl, hB⟩; have HB2 := hid (after HB1.out hB); clear hB; obtain ⟨c20, c21, c22, -, -, -⟩ := newC_cells c HB2.out))
    obtain ⟨wl, hwl⟩ : ∃ wl, wl = w2.drew.alloc (.cells (RA w2) 21) := ⟨_, rfl⟩
    have hB3 : Below (newC c w).heap.size (newC c w) wl := by rw [hwl]; exact after HB2.out (alloc_below (drewN_below (Below.refl _ _) 1) _)
    have hRl : ∀ i, i < rs.length → wl.cell? ⟨w2.heap.size, i, none⟩ = some (.int .i32 (rs.getD i 0)) := fun i hi => by
      rw [hwl]; exact (cell_new w2.drew (RA w2) _ _ i).trans (HRA.out w2 i hi)
    have HRl := hid hRl
    have HB3 := hid hB3
    have HWL := hid hwl
    clear hB3 hRl hwl c10 c11 c12 c20 c21 c22 HRA ha hcv HM
    go_loopg [4] (rs.length + 1) (fun gk v wx => ∃ i : Nat, v = .int .i64 i ∧ i ≤ rs.length ∧ gk = rs.length + 1 - i ∧ Below wl.heap.size wl wx ∧ Hid ((rs.take i).all zero0 = true))
    case atStart => exact ⟨0, rfl, by omega, by omega, by rw [HWL.out]; exact Below.refl _ _, hid (by simp)⟩
    case round =>
      obtain ⟨i, rfl, hi, hgk, hbw, hall⟩ := hrel
      by_cases hlt : i < rs.length
      · have hltz : (i : Int) < (rs.length : Int) := by omega
        have hcell := cell_below hbw (HRl.out i hlt)
        have hr := HR.out i hlt
        have HS : Hid ((rs.take (i + 1)).all zero0 = zero0 (rs.getD i 0)) := hid (by
          rw [List.take_add_one, List.all_append, hall.out, List.getElem?_eq_getElem hlt, List.getD_eq_getElem?_getD, List.getElem?_eq_getElem hlt]; simp)
        obtain ⟨r, hrd⟩ : ∃ r, rs.getD i 0 = r := ⟨_, rfl⟩
        have HRD := hid hrd
        rw [hrd] at hcell hr
        obtain ⟨hr0, hr1⟩ := hr
        obtain ⟨y, hy⟩ : ∃ y, widthOf r = y := ⟨_, rfl⟩
        have hwy : ∀ w1, Calls Tryz.prog 36 #[.int .i64 r] w1 _ := fun w1 => width_is hy w1
        have HY := hid hy
        have HBW := hid hbw
        clear hrd hy hw hall
        by_cases hy0 : y = 0
        · subst hy0
          go_wp2_with (go_at_call 36; (with_reducible refine (hwy _).mono ?_); rintro e w3 ⟨rfl, hB⟩; have HB4 := hid hB; clear hB)
          go_roundg (gk - 1)
          case measure => omega
          case rel => exact ⟨i + 1, by go_num, by omega, by omega, HBW.out.trans (HB4.out.mono HBW.out.size), hid (by rw [HS.out, HRD.out, zero0, HY.out]; rfl)⟩
        · have hne : (y == 0) = false := beq_eq_false_iff_ne.2 hy0
          have hx : x = false := by
            rw [← H.out]
            have : rs.all zero0 = false := by
              rw [List.all_eq_false]
              refine ⟨rs[i], List.getElem_mem hlt, ?_⟩
              have h2 := HRD.out
              rw [List.getD_eq_getElem?_getD, List.getElem?_eq_getElem hlt] at h2
              rw [show rs[i] = r from h2, zero0, HY.out]; simp [hy0]
            rw [this]; simp
          subst hx
          go_wp2_with (go_at_call 36; (with_reducible refine (hwy _).mono ?_); rintro e w3 ⟨rfl, hB⟩; have HB4 := hid hB; clear hB)
          go_ret
          exact ⟨rfl, newC_below c (after HB3.out (HBW.out.trans (HB4.out.mono HBW.out.size)))⟩
      · have hie : i = rs.length := by omega
        subst hie
        have hall2 : rs.all zero0 = true := by have := hall.out; rwa [List.take_length] at this
        have HA := hid hall2
        obtain ⟨c30, c31, c32, -, -, -⟩ := newC_cells c (after HB3.out hbw)
        have HBW := hid (after HB3.out hbw)
        clear hbw hall hall2 HRl HB3
        by_cases h2 : 2 < rs.length
        · have h2z : (2 : Int) < (rs.length : Int) := by omega
          have hx : x = false := by rw [← H.out]; simp; omega
          subst hx
          go_wp2
          go_ret
          exact ⟨rfl, newC_below c HBW.out⟩
        · have h2z : (rs.length : Int) ≤ 2 := by omega
          have h2t : decide (rs.length ≤ 2) = true := decide_eq_true (by omega)
          have H3 := H.out
          rw [HA.out, h2t] at H3
          have HF := hid H3
          clear H H3 HA h2t
          go_wp2_with (go_at_call 36; (with_reducible refine (hw _).mono ?_); rintro e w3 ⟨rfl, hB⟩; have HB4 := hid (after HBW.out hB); clear hB)
          all_goals (go_ret; refine ⟨ret_bool ?_, by first | exact newC_below c HB4.out | exact newC_below c HBW.out⟩; rw [← HF.out]; clear HW2 hw HF HR; rw [Bool.eq_iff_iff]; simp_all [txt_empty])
end Go.Proofs.YtpmfjombfcnhmaaGreatDoor
