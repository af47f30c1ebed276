/- cursor.Move. -/
import Derived.Test.YtpmfjombfcnhmaaGreatDoorMove
set_option linter.unusedVariables false
set_option linter.unusedSimpArgs false
namespace Go.Proofs.YtpmfjombfcnhmaaGreatDoor
open Go Go.RowKit

theorem toS_keeps (s : Scr) (key n k : Int) : (toS s key n k).ms = s.ms ∧ (toS s key n k).os = s.os ∧ (toS s key n k).tabs = s.tabs ∧ (toS s key n k).title = s.title := by
  unfold toS
  simp only
  repeat' split
  all_goals exact ⟨rfl, rfl, rfl, rfl⟩
theorem OwnScr.as {w : World} {base : Nat} {s s' : Scr} {m o t : Value} (h : OwnScr w base s m o t) (e1 : s'.ms = s.ms) (e2 : s'.os = s.os) (e3 : s'.tabs = s.tabs) : OwnScr w base s' m o t := ⟨by rw [e1]; exact h.hm, by rw [e2]; exact h.ho, by rw [e3]; exact h.ht, h.mo, h.mt, h.ot⟩
end Go.Proofs.YtpmfjombfcnhmaaGreatDoor
