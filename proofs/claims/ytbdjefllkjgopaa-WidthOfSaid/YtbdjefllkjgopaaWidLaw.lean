/- How many cells any rune has is the page's: the walk of the law WidthOf. -/
import Derived.Test.YtbdjefllkjgopaaWid
namespace Go.Proofs.Ytbdjefllkjgopaa
open Go Go.RowKit

theorem wakes2_any (w : World) : Calls Try.prog 9 #[] w fun e w' => e = .returned (.bool true) ∧ Below w.heap.size w w' := by
  go_enter Try.func9, Try.ntmps9
  go_wp2_with (first | (go_at_call 7; (with_reducible refine (of_is (r := 97) (x := 1) (by decide) _).mono ?_); rintro e w' ⟨rfl, hB⟩; have B1 := hid hB; clear hB) | (go_at_call 7; (with_reducible refine (of_is (r := 19968) (x := 2) (by decide) _).mono ?_); rintro e w' ⟨rfl, hB⟩; have B2 := hid (after B1.out hB); clear hB) | (go_at_call 7; (with_reducible refine (of_is (r := 769) (x := 0) (by decide) _).mono ?_); rintro e w' ⟨rfl, hB⟩; have B3 := hid (after B2.out hB); clear hB))
  go_ret
  exact ⟨rfl, B3.out⟩

def edgesL : List Int := [31, 32, 127, 159, 0xd800, 0xe000, 0x10ffff, 0x110000, 0x300, 0x36f, 0x1ab0, 0x1aff, 0x200b, 0x200f, 0x20d0, 0x20ff, 0xfe00, 0xfe0f, 0xfe20, 0xfe2f, 0x1100, 0x115f, 0x2e80, 0x303e, 0x3041, 0xa4cf, 0xac00, 0xd7a3, 0xf900, 0xfaff, 0xfe30, 0xfe6f, 0xff00, 0xff60, 0xffe0, 0xffe6, 0x1f300, 0x1f64f, 0x1f900, 0x1f9ff, 0x20000, 0x3fffd, -1]
theorem edges_bd (i : Nat) : -1 ≤ edgesL.getD i 0 ∧ edgesL.getD i 0 ≤ 2000000 := by
  have h : ∀ x ∈ edgesL, -1 ≤ x ∧ x ≤ 2000000 := by decide
  by_cases hi : i < edgesL.length
  · rw [List.getD_eq_getElem?_getD, List.getElem?_eq_getElem hi]; exact h _ (List.getElem_mem hi)
  · rw [List.getD_eq_getElem?_getD, List.getElem?_eq_none (by omega)]; simp
theorem RdI_new (w : World) (t : TypeId) (l : List Int) (c : Nat) (cs : Array Value) (hc : l.length ≤ c) (h : cs.toList = l.map fun x => .int .i64 x) : RdI (w.alloc (.cells cs t)) (.slice (some ⟨w.heap.size, 0, none⟩) l.length c) l := by
  refine ⟨_, c, rfl, hc, fun _ => ⟨_, _, rfl, fun i hi j hj => ?_⟩⟩
  obtain rfl : j = 0 := by omega
  rw [Nat.zero_add, cell_new, show i * 1 + 0 = i by omega, ← Array.getElem?_toList, h]
  simp [hi]

/-- what holds between the rounds: the argument's box, the edges -/
structure WLInv (w : World) (vR : Value) (wr : World) : Prop where
  below : Below w.heap.size w wr
  box : wr.cell? ⟨w.heap.size, 1, none⟩ = some vR
  edges : RdI wr (.slice (some ⟨w.heap.size + 1, 0, none⟩) 43 43) edgesL
theorem WLInv.step {w wr W : World} {vR : Value} (h : WLInv w vR wr) (hb : Below wr.heap.size wr W) : WLInv w vR W :=
  ⟨after h.below hb, cell_below hb h.box, h.edges.below hb⟩
theorem WLInv.edge {w wr : World} {vR : Value} (h : WLInv w vR wr) (i : Nat) (hi : i < 43) : wr.cell? ⟨w.heap.size + 1, i, none⟩ = some (.int .i64 (edgesL.getD i 0)) := by
  obtain ⟨A, c, e, _, hr⟩ := h.edges
  obtain ⟨b, off, hA, hr2⟩ := hr (by decide)
  have hq := hr2 i (show i < edgesL.length from hi) 0 (by omega)
  subst hA
  simp only [Value.slice.injEq, Option.some.injEq, Addr.mk.injEq] at e
  obtain ⟨⟨rfl, rfl, _⟩, _, _⟩ := e
  simpa using hq
theorem WLInv.new (w : World) (vS vR : Value) (t : TypeId) (cs : Array Value) (h : cs.toList = edgesL.map fun x => .int .i64 x) (t' : TypeId) : WLInv w vR ((w.alloc (.cells #[vS, vR] t)).alloc (.cells cs t')) := by
  refine ⟨alloc_below (alloc_below (Below.refl _ _) _) _, ?_, ?_⟩
  · exact cell_below (alloc_below (Below.refl _ _) _) (by rw [cell_new]; rfl)
  · have := RdI_new (w.alloc (.cells #[vS, vR] t)) t' edgesL 43 cs (by decide) h
    rw [World.size_alloc] at this
    exact this

set_option maxHeartbeats 2000000 in
theorem widthOf_walk (vS vR : Value) (l : List Int) (w : World) (hR : RdI w vR l) (hl : l.length ≤ 140737488351232) :
    Calls Try.prog 3 #[.agg #[vS, vR]] w fun e w' => e = .returned (.bool true) ∧ Below w.heap.size w w' := by
  obtain ⟨A, c, rfl, hc, hcell⟩ := hR.open_
  have HC := hid hcell
  clear hcell hR
  by_cases h400 : 400 < l.length
  · go_enter Try.func3, Try.ntmps3
    go_wp2
    go_ret
    exact ⟨rfl, alloc_below (Below.refl _ _) _⟩
  go_enter Try.func3, Try.ntmps3
  go_wp2
  go_loopg [4] 43 (fun k v wr => ∃ i : Nat, v = .int .i64 i ∧ i ≤ 43 ∧ k + i = 43 ∧ WLInv w (.slice A l.length c) wr)
  case atStart => exact ⟨0, rfl, by omega, by omega, WLInv.new _ _ _ _ _ rfl _⟩
  case round =>
    obtain ⟨i, rfl, hi, hk, hI⟩ := hrel
    by_cases hlt : i < 43
    · have hE := hI.edge i hlt
      obtain ⟨e0, he0⟩ : ∃ x, edgesL.getD i 0 = x := ⟨_, rfl⟩
      have hbd := edges_bd i
      rw [he0] at hE hbd
      have HE := hid he0
      have HI := hid hI
      clear he0 hI
      obtain ⟨hb1, hb2⟩ := hbd
      obtain ⟨wo, rfl⟩ : ∃ wo : World, wo = wr := ⟨_, rfl⟩
      obtain ⟨go, hgo⟩ : ∃ go, go = gk := ⟨_, rfl⟩
      subst hgo
      clear hE
      have hi43 : (i : Int) < 43 := by omega
      go_wp2
      go_loopg [5] 3 (fun k v wr => ∃ d : Int, v = .int .i64 d ∧ -1 ≤ d ∧ (k : Int) + d = 2 ∧ WLInv w (.slice A l.length c) wr)
      case atStart => exact ⟨-1, rfl, by omega, by omega, HI.out⟩
      case round =>
        obtain ⟨d, rfl, hd, hk2, hI⟩ := hrel
        have hbox := hI.box
        have hE := hI.edge i hlt
        rw [HE.out] at hE
        have HI2 := hid hI
        clear hI
        by_cases hd1 : d ≤ 1
        · have HF := hid fun W (hW : Below wr.heap.size wr W) => (cell_below hW hE : W.cell? ⟨w.heap.size + 1, i, none⟩ = some (.int .i64 e0))
          have hB0 : Below wr.heap.size wr wr.drew := (Below.refl _ _).drew
          obtain ⟨x, hx⟩ : ∃ x, widthOf (e0 + d) = x := ⟨_, rfl⟩
          have hs : IntKind.i64.wrap (e0 + d) = e0 + d := IntWalk.i64_in _ (by omega)
          have HX := hid hx
          clear hx hbox
          go_wp2
          go_region_with (first | (go_simp; go_at_call 7; (with_reducible refine (of_is HX.out _).mono ?_); rintro e w' ⟨rfl, hB⟩; have hB1 := after (w := wr) (by assumption) hB; clear hB; have hF := HF.out _ hB1) | (go_simp; go_at_call 8; (with_reducible refine (width_is HX.out _).mono ?_); rintro e w' ⟨rfl, hB⟩; have hB1 := after (w := wr) (by assumption) hB; clear hB; have hF := HF.out _ hB1))
          all_goals
            go_wp2
            go_roundg (gk - 1)
            case measure => omega
            case rel => exact ⟨d + 1, rfl, by omega, by omega, HI2.out.step (by assumption)⟩
        · go_wp2
          go_roundg (go - 1)
          case measure => omega
          case rel => exact ⟨i + 1, by go_num, by omega, by omega, HI2.out⟩
    · have hi43 : ¬ (i : Int) < 43 := by omega
      have HI := hid hI
      clear hI
      obtain ⟨wo, rfl⟩ : ∃ wo : World, wo = wr := ⟨_, rfl⟩
      obtain ⟨go, hgo⟩ : ∃ go, go = gk := ⟨_, rfl⟩
      subst hgo
      go_wp2
      go_loopg [6] l.length (fun k v wr => ∃ i : Nat, v = .int .i64 i ∧ i ≤ l.length ∧ k + i = l.length ∧ WLInv w (.slice A l.length c) wr)
      case atStart => exact ⟨0, rfl, by omega, by omega, HI.out⟩
      case round =>
        obtain ⟨j, rfl, hj, hk2, hI⟩ := hrel
        have hbox := hI.box
        have HI2 := hid hI
        clear hI
        by_cases hjl : j < l.length
        · obtain ⟨b, off, rfl, hcell⟩ := HC.out wr HI2.out.below j hjl
          obtain ⟨e0, he0⟩ : ∃ x, l.getD j 0 = x := ⟨_, rfl⟩
          rw [he0] at hcell
          have HF := hid fun W (hW : Below wr.heap.size wr W) => And.intro (cell_below hW hcell : W.cell? ⟨b, off + j, none⟩ = some (.int .i64 e0)) (cell_below hW hbox)
          have hB0 : Below wr.heap.size wr wr.drew := (Below.refl _ _).drew
          obtain ⟨x, hx⟩ : ∃ x, widthOf e0 = x := ⟨_, rfl⟩
          have HX := hid hx
          have hjl2 : (j : Int) < (l.length : Int) := by omega
          clear hx he0
          go_wp2
          go_region_with (first | (go_simp; go_at_call 7; (with_reducible refine (of_is HX.out _).mono ?_); rintro e w' ⟨rfl, hB⟩; have hB1 := after (w := wr) (by assumption) hB; clear hB; have hF := HF.out _ hB1) | (go_simp; go_at_call 8; (with_reducible refine (width_is HX.out _).mono ?_); rintro e w' ⟨rfl, hB⟩; have hB1 := after (w := wr) (by assumption) hB; clear hB; have hF := HF.out _ hB1))
          all_goals
            go_wp2
            go_roundg (gk - 1)
            case measure => omega
            case rel => exact ⟨j + 1, by go_num, by omega, by omega, HI2.out.step (by assumption)⟩
        · have hjl2 : ¬ (j : Int) < (l.length : Int) := by omega
          go_wp2_with (go_at_call 9; refine (wakes2_any _).mono ?_; rintro e w' ⟨rfl, hB⟩; have HB := hid (after HI2.out.below hB); clear hB)
          go_ret
          exact ⟨rfl, HB.out⟩
end Go.Proofs.Ytbdjefllkjgopaa
