/- Where the cursor goes, on a screen of one's own. -/
import Derived.Test.YtpmfjombfcnhmaaGreatDoorSame
set_option linter.unusedVariables false
set_option linter.unusedSimpArgs false
namespace Go.Proofs.YtpmfjombfcnhmaaGreatDoor
open Go Go.RowKit

def atRow (s : Scr) (r : Int) : Scr := { s with cur := { s.cur with row := r } }
def atCol (s : Scr) (c : Int) : Scr := { s with cur := { s.cur with col := c } }
def noWrap (s : Scr) : Scr := { s with cur := { s.cur with wrap := false } }
theorem set_at {F : List Ent} {i : Nat} {x y : Ent} (h : F[i]? = some x) : (F.set i y)[i]? = some y := by
  have := (List.getElem?_eq_some_iff.1 h).1
  simp [this]
def upR (s : Scr) (n : Int) : Int := max (if s.top ≤ s.cur.row then s.top else 0) (s.cur.row - n)
def downR (s : Scr) (n : Int) : Int := min (if s.cur.row ≤ s.bot then s.bot else s.mr - 1) (s.cur.row + n)
def lineR (s : Scr) (n : Int) : Int := if s.cur.org = true then min s.bot (s.top + n - 1) else min s.mr n - 1
/-- the bounds that the walks want -/
structure Bd (s : Scr) : Prop where
  mr : 1 ≤ s.mr ∧ s.mr ≤ 40
  mc : 1 ≤ s.mc ∧ s.mc ≤ 40
  row : 0 ≤ s.cur.row ∧ s.cur.row < s.mr
  col : 0 ≤ s.cur.col ∧ s.cur.col < s.mc
  top : 0 ≤ s.top ∧ s.top ≤ s.bot
  bot : s.bot < s.mr
end Go.Proofs.YtpmfjombfcnhmaaGreatDoor
