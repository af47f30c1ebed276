/- The library's functions on texts: utf8.ValidString, utf8.RuneCountInString, by their contracts. -/
import Derived.Test.YtpmfjombfcnhmaaGreatDoorRow
import Derived.Test.YtpmfjombfcnhmaaGreatDoorWid
import Derived.Shelf.Utf8.RuneCount
import Derived.Shelf.Unicode.DecodeSlow
import Derived.Lib.ValidU
import Derived.Lib.Strings
import Derived.Test.YtpmfjombfcnhmaaGreatDoorLaid
set_option linter.unusedVariables false
set_option linter.unusedSimpArgs false
namespace Go.Proofs.YtpmfjombfcnhmaaGreatDoor
open Go Go.RowKit

theorem txt_iff {a b : ByteArray} : a.toList = b.toList ↔ a = b := by
  rw [Lib.toList_data, Lib.toList_data]
  constructor
  · intro h; cases a; cases b; congr 1; exact Array.toList_inj.1 h
  · rintro rfl; rfl
theorem txt_empty {a : ByteArray} : a.toList = [] ↔ a = ⟨#[]⟩ := by
  rw [← txt_iff (b := ⟨#[]⟩), Lib.toList_data, Lib.toList_data]

def U8 (w : World) : Prop := Lib.Utf8Tabs 0 1 w
theorem U8.below {w w1 : World} (h : U8 w) (hb : Below w.heap.size w w1) : U8 w1 := Utf8Tabs_below h hb
theorem valids_is {s : ByteArray} {x : Bool} (h : Lib.validD s.data.toList = x) (w : World) (hs : s.size ≤ 9223372036854775807) (hT : U8 w) :
    Calls Tryz.prog 77 #[.string s] w fun e w' => e = .returned (.bool x) ∧ Below w.heap.size w w' := h ▸ Tryz.utf8_ValidString s w hs hT
theorem count_is {s : ByteArray} {x : Nat} (h : Lib.runeCount s = x) (w : World) (hs : s.size < 9223372036854775807) :
    Calls Tryz.prog 122 #[.string s] w fun e w' => e = .returned (.int .i64 (x : Int)) ∧ Below w.heap.size w w' := h ▸ (Tryz.utf8_RuneCountInString s w hs).mono fun _ _ ⟨he, pos, hw⟩ => ⟨he, hw ▸ alloc_below (Below.refl _ _) _⟩
end Go.Proofs.YtpmfjombfcnhmaaGreatDoor
