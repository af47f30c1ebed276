/- The reference's Move; its keys. -/
import Derived.Test.YtbjckahaalbpaaaDoorRMove
set_option linter.unusedVariables false
set_option linter.unusedSimpArgs false
set_option linter.unnecessarySimpa false
namespace Go.Proofs.YtbjckahaalbpaaaDoor
open Go Go.RowKit

def inI (l : List Int) (x : Int) : Int := if x ∈ l then (l.idxOf x : Int) else -1
theorem inI_at {l : List Int} {x : Int} {k : Nat} (hk : k < l.length) (h : l.getD k 0 = x) (hb : ∀ j, j < k → l.getD j 0 ≠ x) : inI l x = k := by
  have hx : l[k] = x := by simpa [hk] using h
  have hm : x ∈ l := hx ▸ List.getElem_mem hk
  have hi : l.idxOf x = k := by
    have h1 : l.idxOf x < l.length := List.idxOf_lt_length_iff.2 hm
    have h2 : l[l.idxOf x] = x := List.getElem_idxOf h1
    rcases Nat.lt_trichotomy (l.idxOf x) k with h3 | h3 | h3
    · exact absurd (by simpa [h1] using h2) (hb _ h3)
    · exact h3
    · have := List.not_of_lt_findIdx (p := (· == x)) (xs := l) (i := k) h3
      simp [hx] at this
  rw [inI, if_pos hm, hi]
theorem inI_no {l : List Int} {x : Int} (hb : ∀ j, j < l.length → l.getD j 0 ≠ x) : inI l x = -1 := by
  rw [inI, if_neg]
  intro hm
  obtain ⟨j, hj, e⟩ := List.getElem_of_mem hm
  exact hb j hj (by simpa [hj] using e)
set_option maxRecDepth 100000 in
set_option maxHeartbeats 1000000 in
theorem in_any {l : List Int} {x r : Int} (h : inI l x = r) (v : Value) (w : World) (hv : RdI w v l) (hl : l.length ≤ 1000) : Calls Tryd.prog 62 #[v, .int .i64 x] w fun e w' => e = .returned (.int .i64 r) ∧ w = w' := by
  have H := hid h
  obtain ⟨A, c, rfl, hc, hcell⟩ := hv.open_
  have HC := hid (hcell w (Below.refl _ _))
  clear h hv hcell
  go_enter Tryd.func62, Tryd.ntmps62
  go_wp2
  go_loop [5] (fun i => ∃ k : Nat, k ≤ l.length ∧ i = .int .i64 k ∧ Hid (∀ j, j < k → l.getD j 0 ≠ x)) (fun i => l.length - (intOf i).toNat)
  case atStart => exact ⟨0, Nat.zero_le _, rfl, hid fun j hj => absurd hj (by omega)⟩
  case round =>
    obtain ⟨k, hk, rfl, HB⟩ := hrel
    by_cases hlt : k < l.length
    · obtain ⟨b, off, rfl, hcl⟩ := HC.out k hlt
      obtain ⟨y, hy⟩ : ∃ y, l.getD k 0 = y := ⟨_, rfl⟩
      rw [hy] at hcl
      have HY := hid hy
      clear hy
      have hlt2 : (k : Int) < (l.length : Int) := by omega
      by_cases hx : y = x
      · have HR := hid (inI_at hlt (HY.out.trans hx) HB.out)
        have hx2 : (y == x) = true := by rw [hx]; simp
        clear hx
        go_wp2
        go_ret
        exact ⟨ret_int (by rw [← H.out, HR.out]), rfl⟩
      · have hx2 : (y == x) = false := by simpa using hx
        have HX := hid (show l.getD k 0 ≠ x by rw [HY.out]; exact hx)
        clear hx
        go_wp2
        go_round
        case rel => exact ⟨k + 1, by omega, by go_num, hid fun j hj => by
          rcases Nat.lt_succ_iff_lt_or_eq.1 hj with h | h
          · exact HB.out j h
          · subst h; exact HX.out⟩
        case measure => simp [intOf]; omega
    · obtain rfl : k = l.length := by omega
      have hlt2 : ¬ (l.length : Int) < (l.length : Int) := by omega
      have HR := hid (inI_no HB.out)
      go_wp2
      go_ret
      exact ⟨ret_int (by rw [← H.out, HR.out]), rfl⟩
def keysL : List Int := [65, 66, 67, 68, 69, 70, 71, 100, 72, 73, 90]
theorem keysL_in {k : Int} : decide (0 ≤ inI keysL k) = moveKey k := by
  by_cases h : k ∈ keysL
  · have h0 : 0 ≤ inI keysL k := by unfold inI; rw [if_pos h]; omega
    rw [decide_eq_true h0]
    simp only [keysL, List.mem_cons, List.not_mem_nil, or_false] at h
    exact (decide_eq_true h).symm
  · have h0 : ¬ 0 ≤ inI keysL k := by unfold inI; rw [if_neg h]; omega
    rw [decide_eq_false h0]
    simp only [keysL, List.mem_cons, List.not_mem_nil, or_false] at h
    exact (decide_eq_false h).symm
theorem RdI_new (w : World) (t : TypeId) (l : List Int) (cs : Array Value) (n : Nat) (h : cs.toList = l.map (.int .i64)) (hn : n = l.length) : RdI (w.alloc (.cells cs t)) (.slice (some ⟨w.heap.size, 0, none⟩) n n) l := by
  subst hn
  refine ⟨_, _, rfl, Nat.le_refl _, fun _ => ⟨_, _, rfl, fun i hi j hj => ?_⟩⟩
  obtain rfl : j = 0 := by omega
  rw [cell_new, ← Array.getElem?_toList, h]
  simp [hi]
set_option maxRecDepth 100000 in
theorem moveKey_is {k : Int} {x : Bool} (h : moveKey k = x) (w : World) : Calls Tryd.prog 38 #[.int .i64 k] w fun e w' => e = .returned (.bool x) ∧ Below w.heap.size w w' := by
  obtain ⟨r, hr⟩ : ∃ r, inI keysL k = r := ⟨_, rfl⟩
  have H := hid (show decide (0 ≤ r) = x by rw [← hr, keysL_in, h])
  have HI : Hid (∀ W, RdI W (.slice (some ⟨w.heap.size, 0, none⟩) 11 11) keysL → Calls Tryd.prog 62 #[.slice (some ⟨w.heap.size, 0, none⟩) 11 11, .int .i64 k] W _) := hid fun W hW => in_any hr _ W hW (by decide)
  clear h hr
  go_enter Tryd.func38, Tryd.ntmps38
  go_wp2_with (go_at_call 62; fail)
  refine (HI.out _ (RdI_new _ _ keysL _ _ rfl rfl)).mono ?_
  rintro e w' ⟨rfl, rfl⟩
  go_wp2
  go_ret
  exact ⟨ret_bool H.out, alloc_below (Below.refl _ _) _⟩
theorem rmove_any {s : Scr} {m o t : Value} {n k key : Int} {w : World} (hr : RdScr w s m o t) (hs : scrB s = true) (hn : numOk n = true) (hk : numOk k = true) (hkey : moveKey key = true) :
    Calls Tryd.prog 40 #[.agg (scrL s m o t).toArray, .int .i64 key, .int .i64 n, .int .i64 k] w fun e w' => ∃ m' o' t', e = .returned (.agg (scrL (toS s key (max 1 n) (max 1 k)) m' o' t').toArray) ∧ OwnScr w' w.heap.size (toS s key (max 1 n) (max 1 k)) m' o' t' ∧ Below w.heap.size w w' := by
  have hnb : -1 ≤ n ∧ n ≤ 9999 := by simpa [numOk] using hn
  have hkb : -1 ≤ k ∧ k ≤ 9999 := by simpa [numOk] using hk
  simp only [moveKey, decide_eq_true_eq] at hkey
  rcases hkey with rfl | rfl | rfl | rfl | rfl | rfl | rfl | rfl | rfl | rfl | rfl
  · exact rmove_65 hr hs hnb hkb
  · exact rmove_66 hr hs hnb hkb
  · exact rmove_67 hr hs hnb hkb
  · exact rmove_68 hr hs hnb hkb
  · exact rmove_69 hr hs hnb hkb
  · exact rmove_70 hr hs hnb hkb
  · exact rmove_71 hr hs hnb hkb
  · exact rmove_100 hr hs hnb hkb
  · exact rmove_72 hr hs hnb hkb
  · exact rmove_73 hr hs hnb hkb
  · exact rmove_90 hr hs hnb hkb
end Go.Proofs.YtbjckahaalbpaaaDoor
