/- cursor.To, key by key (printed by gento.py). -/
import Derived.Test.YtpmfjombfcnhmaaGreatDoorCurs
set_option linter.unusedVariables false
set_option linter.unusedSimpArgs false

namespace Go.Proofs.YtpmfjombfcnhmaaGreatDoor
open Go Go.RowKit

def toS (s0 : Scr) (key n k : Int) : Scr :=
  let s := noWrap s0
  if key = 65 then atRow s (upR s n) else if key = 66 then atRow s (downR s n) else if key = 67 then atCol s (min (s.mc - 1) (s.cur.col + n)) else if key = 68 then atCol s (max 0 (s.cur.col - n)) else
  if key = 69 then atCol (atRow s (downR s n)) 0 else if key = 70 then atCol (atRow s (upR s n)) 0 else if key = 71 then atCol s (min s.mc n - 1) else if key = 100 then atRow s (lineR s n) else
  if key = 72 then atCol (atRow s (lineR s n)) (min s.mc k - 1) else if key = 73 then atCol s (nextT s.tabs s.cur.col n) else if key = 90 then atCol s (backT s.tabs s.cur.col n) else s
theorem Bd.noWrap {s : Scr} (h : Bd s) : Bd (noWrap s) := ⟨h.mr, h.mc, h.row, h.col, h.top, h.bot⟩
theorem stillR {P : Program} {f : Nat} {args : Array Value} {w : World} {v : Value} (h : Calls P f args w fun e w' => e = .returned v ∧ w = w') : Calls P f args w fun e w' => e = .returned v ∧ w' = w := h.mono fun _ _ ⟨a, b⟩ => ⟨a, b.symm⟩
end Go.Proofs.YtpmfjombfcnhmaaGreatDoor
