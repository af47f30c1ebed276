/- What is put over a rune, and a cell by itself: the program's answer and the reference's. -/
import Derived.Test.YtpmfjombfcnhmaaGreatDoorShelf
import Derived.Laws.RangeAny
import Derived.Laws.IdiomStrings
set_option linter.unusedVariables false
set_option linter.unusedSimpArgs false
namespace Go.Proofs.YtpmfjombfcnhmaaGreatDoor
open Go Go.RowKit

/-- the runes of a text from a place on, at most k -/
def runesL (s : ByteArray) : Nat → Nat → List Int
  | 0, _ => []
  | k + 1, p => if p < s.size then ((Utf8.decode s p).1 : Int) :: runesL s k (p + (Utf8.decode s p).2) else []
def runes (s : ByteArray) : List Int := runesL s s.size 0
theorem runesL_end {s : ByteArray} {p : Nat} (k : Nat) (h : ¬ p < s.size) : runesL s k p = [] := by
  cases k <;> simp [runesL, h]
theorem runesL_step {s : ByteArray} {p : Nat} (k : Nat) (h : p < s.size) : runesL s (k + 1) p = ((Utf8.decode s p).1 : Int) :: runesL s k (p + (Utf8.decode s p).2) := by
  simp [runesL, h]
theorem runesL_length (s : ByteArray) : ∀ (k p : Nat), (runesL s k p).length = Lib.runeCountFrom s k p
  | 0, _ => by simp [runesL, Lib.runeCountFrom]
  | k + 1, p => by
    unfold runesL Lib.runeCountFrom
    split
    · rw [List.length_cons, runesL_length s k]; omega
    · rfl
theorem runes_count (s : ByteArray) : Lib.runeCount s = (runes s).length := (runesL_length s _ _).symm
theorem runesFrom_eq (s : ByteArray) : ∀ (k p : Nat) (acc : Array Value), Conv.runesFrom s k p acc = acc ++ ((runesL s k p).map (Value.int .i32)).toArray
  | 0, _, acc => by simp [Conv.runesFrom, runesL]
  | k + 1, p, acc => by
    unfold Conv.runesFrom runesL
    split
    · show Conv.runesFrom s k (p + (Utf8.decode s p).2) (acc.push (.int .i32 (Int.ofNat (Utf8.decode s p).1))) = _
      rw [runesFrom_eq s k]; simp
    · simp
theorem runes_le (s : ByteArray) : (runes s).length ≤ s.size := by rw [← runes_count]; exact Lib.runeCount_le s

def zero0 (r : Int) : Bool := decide (widthOf r = 0)
/-- what is put over a rune may be -/
def combOk (s : ByteArray) : Bool := Lib.validD s.data.toList && decide ((runes s).length ≤ 2) && (runes s).all zero0

set_option maxHeartbeats 1000000 in
theorem marked_is {s : ByteArray} {x : Bool} (h : combOk s = x) (w : World) (hs : s.size < 9223372036854775807) (hT : U8 w) :
    Calls Tryz.prog 120 #[.string s] w fun e w' => e = .returned (.bool x) ∧ Below w.heap.size w w' := by
  obtain ⟨v, hv⟩ : ∃ v, Lib.validD s.data.toList = v := ⟨_, rfl⟩
  obtain ⟨n, hn⟩ : ∃ n, Lib.runeCount s = n := ⟨_, rfl⟩
  have hn2 : (runes s).length = n := by rw [← hn, runes_count]
  have hnle : n ≤ s.size := by rw [← hn]; exact Lib.runeCount_le s
  have HV := hid hv
  have HN := hid hn
  have H := hid (show (v && decide (n ≤ 2) && (runes s).all zero0) = x by rw [← h, combOk, hv, hn2])
  have HT := hid hT
  clear h hv hn hn2 hT
  have hvs : Calls Tryz.prog 77 #[.string s] w _ := valids_is HV.out w (by omega) HT.out
  cases v with
  | false =>
    have hx : x = false := by rw [← H.out]; simp
    subst hx
    go_enter Tryz.func120, Tryz.ntmps120
    go_wp2_with (go_at_call 77; (with_reducible refine hvs.mono ?_); rintro e w1 ⟨rfl, hB⟩; have HB := hid hB; clear hB)
    all_goals (go_ret; exact ⟨rfl, HB.out⟩)
  | true =>
    have hcs : ∀ w1, Calls Tryz.prog 122 #[.string s] w1 _ := fun w1 => count_is HN.out w1 hs
    by_cases hn3 : 2 < n
    · have hn3z : (2 : Int) < (n : Int) := by omega
      have hx : x = false := by rw [← H.out]; simp; omega
      subst hx
      go_enter Tryz.func120, Tryz.ntmps120
      go_wp2_with (first | (go_at_call 77; (with_reducible refine hvs.mono ?_); rintro e w1 ⟨rfl, hB⟩; have HB := hid hB; clear hB) | (go_at_call 122; (with_reducible refine (hcs _).mono ?_); rintro e w2 ⟨rfl, hB⟩; have HB2 := hid hB; clear hB))
      all_goals (go_ret; exact ⟨rfl, after HB.out HB2.out⟩)
    · have hn3z : (n : Int) ≤ 2 := by omega
      have HA : Hid ((runesL s s.size 0).all zero0 = x) := hid (by rw [← H.out]; simp [show n ≤ 2 by omega, runes])
      clear H
      go_enter Tryz.func120, Tryz.ntmps120
      go_wp2_with (first | (go_at_call 77; (with_reducible refine hvs.mono ?_); rintro e w1 ⟨rfl, hB⟩; have HB := hid hB; clear hB) | (go_at_call 122; (with_reducible refine (hcs _).mono ?_); rintro e w2 ⟨rfl, hB⟩; have HB2 := hid hB; clear hB))
      go_loopg [4] (s.size + 1) (fun gk s4 wx => ∃ pos b : Nat, Below w2.heap.size w2 wx ∧ wx.heap[w2.heap.size]? = some (.stringIter s pos) ∧ s.size ≤ pos + b ∧ b < gk ∧ Hid ((runesL s b pos).all zero0 = x))
      case atStart => exact ⟨0, s.size, alloc_below (Below.refl _ _) _, World.iter_heap _ _ _, by omega, by omega, HA⟩
      case round =>
        obtain ⟨pos, b, hbw, hit, hpb, hbg, HL⟩ := hrel
        clear HA HT hvs hcs HV HN
        by_cases hp : pos < s.size
        · obtain ⟨b, rfl⟩ : ∃ c, b = c + 1 := ⟨b - 1, by omega⟩
          have hwd := Lib.decode_width_pos s pos hp
          have hd1 := decode_le s pos
          have hnx : ∀ ty, (Instr.next (.pointer (some ⟨w2.heap.size, 0, none⟩)) true ty).run Tryz.prog wr = _ := fun ty => Lib.run_next_any_at wr w2.heap.size s pos ty hit hp
          have hL := HL.out
          rw [runesL_step _ hp, List.all_cons] at hL
          obtain ⟨r, hr⟩ : ∃ r, (Utf8.decode s pos).1 = r := ⟨_, rfl⟩
          obtain ⟨q, hq⟩ : ∃ q, pos + (Utf8.decode s pos).2 = q := ⟨_, rfl⟩
          rw [hr] at hd1 hL
          rw [hr, hq] at hnx
          rw [hq] at hL
          have hit2 := Lib.iterAt_heap wr w2.heap.size s pos q hit
          have hbw2 : Below w2.heap.size w2 (wr.iterAt w2.heap.size s q) := Lib.below_iterAt hbw (Nat.le_refl _) s q
          have hlt := (Array.getElem?_eq_some_iff.1 hit2).1
          have HL2 := hid hL
          have H2 := hid (show s.size ≤ q + b ∧ q ≤ q by omega)
          have HI2 := hid hit2
          have HB3 := hid hbw2
          have hrz : (r : Int) ≤ 2147483647 := by omega
          have hof : ∀ w1, Calls Tryz.prog 61 #[.int .i64 (r : Int)] w1 _ := fun w1 => of_is (rfl : widthOf (r : Int) = _) w1
          clear hL HL hd1 hr hit hit2 hbw hbw2 hwd hq hpb
          obtain ⟨u, hu⟩ : ∃ u, widthOf (r : Int) = u := ⟨_, rfl⟩
          rw [hu] at hof
          by_cases hu0 : u = 0
          · subst hu0
            go_wp2_with (go_at_call 61; (with_reducible refine (hof _).mono ?_); rintro e w3 ⟨rfl, hB⟩; have HB4 := hid hB; clear hB)
            go_roundg (gk - 1)
            case measure => omega
            case rel =>
              refine ⟨q, b, HB3.out.trans (HB4.out.mono HB3.out.size), ?_, H2.out.1, by omega, hid ?_⟩
              · rw [HB4.out.block _ hlt]; exact HI2.out
              · have := HL2.out; rw [zero0, hu] at this; simpa using this
          · have hne : (u == 0) = false := beq_eq_false_iff_ne.2 hu0
            have hx : x = false := by rw [← HL2.out, zero0, hu]; simp [hu0]
            subst hx
            go_wp2_with (go_at_call 61; (with_reducible refine (hof _).mono ?_); rintro e w3 ⟨rfl, hB⟩; have HB4 := hid hB; clear hB)
            go_ret
            exact ⟨rfl, after (after HB.out HB2.out) (HB3.out.trans (HB4.out.mono HB3.out.size))⟩
        · have hnx : ∀ ty, (Instr.next (.pointer (some ⟨w2.heap.size, 0, none⟩)) true ty).run Tryz.prog wr = _ := fun ty => Lib.run_next_end_at wr w2.heap.size s pos ty hit hp
          have hx : x = true := by rw [← HL.out, runesL_end _ hp]; rfl
          subst hx
          go_wp2
          go_ret
          exact ⟨rfl, after (after HB.out HB2.out) hbw⟩
end Go.Proofs.YtpmfjombfcnhmaaGreatDoor
