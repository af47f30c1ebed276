/-
  DERIVED. GIVEN WITH THE SEED: THE CARDS: each row of YtbjckahaalbpaaaDoorRows.lean that lists a variable, with what it lists TIED to the program's text (the seventh form; the later family's looks); each row that meets fmt, with fmt's text TOLD by the authors' own Lean function (tested against real Go, not proved from fmt's source: count such statements apart). THE CARD IS WHAT COUNTS. Prove the row's statement (the work); the ties are given (YtbjckahaalbpaaaDoorTie.lean); close each card by the builder's one call (the guide's Derived/Test/ToyasCard.lean, 'card_holds'). Laid BY PROGRAM, IN A SANDBOX (cutbox-door.mjs). By AI agents, Wed Nov 11 2026. No macro, syntax, notation, axiom, sorry.
-/
import Derived.Test.YtbjckahaalbpaaaDoorRows
import GoSem.ClaimSeven
namespace Go.Proofs.YtbjckahaalbpaaaDoor
namespace Rows

/-- THE TIED CARD OF 'beaconlaw10.CursorUp'. -/
def cursorUpCard : Claim7 := { stood := { row := cursorUpRow, standIns := [], harness := (true, "35452cdd65cb51ab8b709460a0442fa75a313bbb77346288e7a427c474ba77ee"), looks := false }, kinds := [], alts := [], laidByText := true, laidKinds := [.data, .pinned], laidTests := true, laidLooks := .later }
def CursorUpCardSaid : Prop := Claim7.holds Tryd.pinned (.plain (OpenSpec.ofChange cursorUpSpec)) cursorUpCard

/-- THE TIED CARD OF 'beaconlaw10.CursorDown'. -/
def cursorDownCard : Claim7 := { stood := { row := cursorDownRow, standIns := [], harness := (true, "35452cdd65cb51ab8b709460a0442fa75a313bbb77346288e7a427c474ba77ee"), looks := false }, kinds := [], alts := [], laidByText := true, laidKinds := [.data, .pinned], laidTests := true, laidLooks := .later }
def CursorDownCardSaid : Prop := Claim7.holds Tryd.pinned (.plain (OpenSpec.ofChange cursorDownSpec)) cursorDownCard

/-- THE TIED CARD OF 'beaconlaw10.CursorSide'. -/
def cursorSideCard : Claim7 := { stood := { row := cursorSideRow, standIns := [], harness := (true, "35452cdd65cb51ab8b709460a0442fa75a313bbb77346288e7a427c474ba77ee"), looks := false }, kinds := [], alts := [], laidByText := true, laidKinds := [.data, .pinned], laidTests := true, laidLooks := .later }
def CursorSideCardSaid : Prop := Claim7.holds Tryd.pinned (.plain (OpenSpec.ofChange cursorSideSpec)) cursorSideCard

/-- THE TIED CARD OF 'beaconlaw10.CursorTo'. -/
def cursorToCard : Claim7 := { stood := { row := cursorToRow, standIns := [], harness := (true, "35452cdd65cb51ab8b709460a0442fa75a313bbb77346288e7a427c474ba77ee"), looks := false }, kinds := [], alts := [], laidByText := true, laidKinds := [.data, .pinned], laidTests := true, laidLooks := .later }
def CursorToCardSaid : Prop := Claim7.holds Tryd.pinned (.plain (OpenSpec.ofChange cursorToSpec)) cursorToCard

/-- THE TIED CARD OF 'beaconlaw10.CursorTab'. -/
def cursorTabCard : Claim7 := { stood := { row := cursorTabRow, standIns := [], harness := (true, "35452cdd65cb51ab8b709460a0442fa75a313bbb77346288e7a427c474ba77ee"), looks := false }, kinds := [], alts := [], laidByText := true, laidKinds := [.data, .pinned], laidTests := true, laidLooks := .later }
def CursorTabCardSaid : Prop := Claim7.holds Tryd.pinned (.plain (OpenSpec.ofChange cursorTabSpec)) cursorTabCard

/-- THE TIED CARD OF 'beaconlaw10.CursorBigA'. -/
def cursorBigACard : Claim7 := { stood := { row := cursorBigARow, standIns := [], harness := (true, "35452cdd65cb51ab8b709460a0442fa75a313bbb77346288e7a427c474ba77ee"), looks := false }, kinds := [], alts := [], laidByText := true, laidKinds := [.data, .pinned], laidTests := true, laidLooks := .later }
def CursorBigACardSaid : Prop := Claim7.holds Tryd.pinned (.plain (OpenSpec.ofChange cursorBigASpec)) cursorBigACard

/-- THE TIED CARD OF 'beaconlaw10.CursorBigB'. -/
def cursorBigBCard : Claim7 := { stood := { row := cursorBigBRow, standIns := [], harness := (true, "35452cdd65cb51ab8b709460a0442fa75a313bbb77346288e7a427c474ba77ee"), looks := false }, kinds := [], alts := [], laidByText := true, laidKinds := [.data, .pinned], laidTests := true, laidLooks := .later }
def CursorBigBCardSaid : Prop := Claim7.holds Tryd.pinned (.plain (OpenSpec.ofChange cursorBigBSpec)) cursorBigBCard

/-- THE TIED CARD OF 'beaconlaw10.CursorBigC'. -/
def cursorBigCCard : Claim7 := { stood := { row := cursorBigCRow, standIns := [], harness := (true, "35452cdd65cb51ab8b709460a0442fa75a313bbb77346288e7a427c474ba77ee"), looks := false }, kinds := [], alts := [], laidByText := true, laidKinds := [.data, .pinned], laidTests := true, laidLooks := .later }
def CursorBigCCardSaid : Prop := Claim7.holds Tryd.pinned (.plain (OpenSpec.ofChange cursorBigCSpec)) cursorBigCCard

/-- THE TIED CARD OF 'beaconlaw10.CursorBigD'. -/
def cursorBigDCard : Claim7 := { stood := { row := cursorBigDRow, standIns := [], harness := (true, "35452cdd65cb51ab8b709460a0442fa75a313bbb77346288e7a427c474ba77ee"), looks := false }, kinds := [], alts := [], laidByText := true, laidKinds := [.data, .pinned], laidTests := true, laidLooks := .later }
def CursorBigDCardSaid : Prop := Claim7.holds Tryd.pinned (.plain (OpenSpec.ofChange cursorBigDSpec)) cursorBigDCard

/-- THE TIED CARD OF 'beaconlaw10.CursorBigE'. -/
def cursorBigECard : Claim7 := { stood := { row := cursorBigERow, standIns := [], harness := (true, "35452cdd65cb51ab8b709460a0442fa75a313bbb77346288e7a427c474ba77ee"), looks := false }, kinds := [], alts := [], laidByText := true, laidKinds := [.data, .pinned], laidTests := true, laidLooks := .later }
def CursorBigECardSaid : Prop := Claim7.holds Tryd.pinned (.plain (OpenSpec.ofChange cursorBigESpec)) cursorBigECard

/-- THE TIED CARD OF 'beaconlaw10.CursorBigF'. -/
def cursorBigFCard : Claim7 := { stood := { row := cursorBigFRow, standIns := [], harness := (true, "35452cdd65cb51ab8b709460a0442fa75a313bbb77346288e7a427c474ba77ee"), looks := false }, kinds := [], alts := [], laidByText := true, laidKinds := [.data, .pinned], laidTests := true, laidLooks := .later }
def CursorBigFCardSaid : Prop := Claim7.holds Tryd.pinned (.plain (OpenSpec.ofChange cursorBigFSpec)) cursorBigFCard

/-- THE TIED CARD OF 'beaconlaw10.CursorBigG'. -/
def cursorBigGCard : Claim7 := { stood := { row := cursorBigGRow, standIns := [], harness := (true, "35452cdd65cb51ab8b709460a0442fa75a313bbb77346288e7a427c474ba77ee"), looks := false }, kinds := [], alts := [], laidByText := true, laidKinds := [.data, .pinned], laidTests := true, laidLooks := .later }
def CursorBigGCardSaid : Prop := Claim7.holds Tryd.pinned (.plain (OpenSpec.ofChange cursorBigGSpec)) cursorBigGCard

/-- THE TIED CARD OF 'beaconlaw10.CursorD'. -/
def cursorDCard : Claim7 := { stood := { row := cursorDRow, standIns := [], harness := (true, "35452cdd65cb51ab8b709460a0442fa75a313bbb77346288e7a427c474ba77ee"), looks := false }, kinds := [], alts := [], laidByText := true, laidKinds := [.data, .pinned], laidTests := true, laidLooks := .later }
def CursorDCardSaid : Prop := Claim7.holds Tryd.pinned (.plain (OpenSpec.ofChange cursorDSpec)) cursorDCard

/-- THE TIED CARD OF 'beaconlaw10.CursorBigH'. -/
def cursorBigHCard : Claim7 := { stood := { row := cursorBigHRow, standIns := [], harness := (true, "35452cdd65cb51ab8b709460a0442fa75a313bbb77346288e7a427c474ba77ee"), looks := false }, kinds := [], alts := [], laidByText := true, laidKinds := [.data, .pinned], laidTests := true, laidLooks := .later }
def CursorBigHCardSaid : Prop := Claim7.holds Tryd.pinned (.plain (OpenSpec.ofChange cursorBigHSpec)) cursorBigHCard

/-- THE TIED CARD OF 'beaconlaw10.CursorBigI'. -/
def cursorBigICard : Claim7 := { stood := { row := cursorBigIRow, standIns := [], harness := (true, "35452cdd65cb51ab8b709460a0442fa75a313bbb77346288e7a427c474ba77ee"), looks := false }, kinds := [], alts := [], laidByText := true, laidKinds := [.data, .pinned], laidTests := true, laidLooks := .later }
def CursorBigICardSaid : Prop := Claim7.holds Tryd.pinned (.plain (OpenSpec.ofChange cursorBigISpec)) cursorBigICard

/-- THE TIED CARD OF 'beaconlaw10.CursorBigZ'. -/
def cursorBigZCard : Claim7 := { stood := { row := cursorBigZRow, standIns := [], harness := (true, "35452cdd65cb51ab8b709460a0442fa75a313bbb77346288e7a427c474ba77ee"), looks := false }, kinds := [], alts := [], laidByText := true, laidKinds := [.data, .pinned], laidTests := true, laidLooks := .later }
def CursorBigZCardSaid : Prop := Claim7.holds Tryd.pinned (.plain (OpenSpec.ofChange cursorBigZSpec)) cursorBigZCard

/-- THE TIED CARD OF 'beaconlaw10.CursorWithin'. -/
def cursorWithinCard : Claim7 := { stood := { row := cursorWithinRow, standIns := [], harness := (true, "35452cdd65cb51ab8b709460a0442fa75a313bbb77346288e7a427c474ba77ee"), looks := false }, kinds := [], alts := [], laidByText := true, laidKinds := [.data, .pinned], laidTests := true, laidLooks := .later }
def CursorWithinCardSaid : Prop := Claim7.holds Tryd.pinned (.plain (OpenSpec.ofChange cursorWithinSpec)) cursorWithinCard

/-- THE TIED CARD OF 'beaconlaw10.CursorKeeps'. -/
def cursorKeepsCard : Claim7 := { stood := { row := cursorKeepsRow, standIns := [], harness := (true, "35452cdd65cb51ab8b709460a0442fa75a313bbb77346288e7a427c474ba77ee"), looks := false }, kinds := [], alts := [], laidByText := true, laidKinds := [.data, .pinned], laidTests := true, laidLooks := .later }
def CursorKeepsCardSaid : Prop := Claim7.holds Tryd.pinned (.plain (OpenSpec.ofChange cursorKeepsSpec)) cursorKeepsCard

/-- THE SECOND FORM's CARD OF 'beaconlaw10.CursorUp'. -/
def cursorUpUptoCard : Claim7 := { stood := { row := cursorUpUptoRow, standIns := [], harness := (true, "35452cdd65cb51ab8b709460a0442fa75a313bbb77346288e7a427c474ba77ee"), looks := false }, kinds := [], alts := [], laidByText := true, laidKinds := [.data, .pinned], laidTests := true, laidLooks := .later }
def CursorUpUptoCardSaid : Prop := Claim7.holds Tryd.pinned (.plain (OpenSpec.upto cursorUpSpec)) cursorUpUptoCard

/-- THE SECOND FORM's CARD OF 'beaconlaw10.CursorDown'. -/
def cursorDownUptoCard : Claim7 := { stood := { row := cursorDownUptoRow, standIns := [], harness := (true, "35452cdd65cb51ab8b709460a0442fa75a313bbb77346288e7a427c474ba77ee"), looks := false }, kinds := [], alts := [], laidByText := true, laidKinds := [.data, .pinned], laidTests := true, laidLooks := .later }
def CursorDownUptoCardSaid : Prop := Claim7.holds Tryd.pinned (.plain (OpenSpec.upto cursorDownSpec)) cursorDownUptoCard

/-- THE SECOND FORM's CARD OF 'beaconlaw10.CursorSide'. -/
def cursorSideUptoCard : Claim7 := { stood := { row := cursorSideUptoRow, standIns := [], harness := (true, "35452cdd65cb51ab8b709460a0442fa75a313bbb77346288e7a427c474ba77ee"), looks := false }, kinds := [], alts := [], laidByText := true, laidKinds := [.data, .pinned], laidTests := true, laidLooks := .later }
def CursorSideUptoCardSaid : Prop := Claim7.holds Tryd.pinned (.plain (OpenSpec.upto cursorSideSpec)) cursorSideUptoCard

/-- THE SECOND FORM's CARD OF 'beaconlaw10.CursorTo'. -/
def cursorToUptoCard : Claim7 := { stood := { row := cursorToUptoRow, standIns := [], harness := (true, "35452cdd65cb51ab8b709460a0442fa75a313bbb77346288e7a427c474ba77ee"), looks := false }, kinds := [], alts := [], laidByText := true, laidKinds := [.data, .pinned], laidTests := true, laidLooks := .later }
def CursorToUptoCardSaid : Prop := Claim7.holds Tryd.pinned (.plain (OpenSpec.upto cursorToSpec)) cursorToUptoCard

/-- THE SECOND FORM's CARD OF 'beaconlaw10.CursorTab'. -/
def cursorTabUptoCard : Claim7 := { stood := { row := cursorTabUptoRow, standIns := [], harness := (true, "35452cdd65cb51ab8b709460a0442fa75a313bbb77346288e7a427c474ba77ee"), looks := false }, kinds := [], alts := [], laidByText := true, laidKinds := [.data, .pinned], laidTests := true, laidLooks := .later }
def CursorTabUptoCardSaid : Prop := Claim7.holds Tryd.pinned (.plain (OpenSpec.upto cursorTabSpec)) cursorTabUptoCard

/-- THE SECOND FORM's CARD OF 'beaconlaw10.CursorBigA'. -/
def cursorBigAUptoCard : Claim7 := { stood := { row := cursorBigAUptoRow, standIns := [], harness := (true, "35452cdd65cb51ab8b709460a0442fa75a313bbb77346288e7a427c474ba77ee"), looks := false }, kinds := [], alts := [], laidByText := true, laidKinds := [.data, .pinned], laidTests := true, laidLooks := .later }
def CursorBigAUptoCardSaid : Prop := Claim7.holds Tryd.pinned (.plain (OpenSpec.upto cursorBigASpec)) cursorBigAUptoCard

/-- THE SECOND FORM's CARD OF 'beaconlaw10.CursorBigB'. -/
def cursorBigBUptoCard : Claim7 := { stood := { row := cursorBigBUptoRow, standIns := [], harness := (true, "35452cdd65cb51ab8b709460a0442fa75a313bbb77346288e7a427c474ba77ee"), looks := false }, kinds := [], alts := [], laidByText := true, laidKinds := [.data, .pinned], laidTests := true, laidLooks := .later }
def CursorBigBUptoCardSaid : Prop := Claim7.holds Tryd.pinned (.plain (OpenSpec.upto cursorBigBSpec)) cursorBigBUptoCard

/-- THE SECOND FORM's CARD OF 'beaconlaw10.CursorBigC'. -/
def cursorBigCUptoCard : Claim7 := { stood := { row := cursorBigCUptoRow, standIns := [], harness := (true, "35452cdd65cb51ab8b709460a0442fa75a313bbb77346288e7a427c474ba77ee"), looks := false }, kinds := [], alts := [], laidByText := true, laidKinds := [.data, .pinned], laidTests := true, laidLooks := .later }
def CursorBigCUptoCardSaid : Prop := Claim7.holds Tryd.pinned (.plain (OpenSpec.upto cursorBigCSpec)) cursorBigCUptoCard

/-- THE SECOND FORM's CARD OF 'beaconlaw10.CursorBigD'. -/
def cursorBigDUptoCard : Claim7 := { stood := { row := cursorBigDUptoRow, standIns := [], harness := (true, "35452cdd65cb51ab8b709460a0442fa75a313bbb77346288e7a427c474ba77ee"), looks := false }, kinds := [], alts := [], laidByText := true, laidKinds := [.data, .pinned], laidTests := true, laidLooks := .later }
def CursorBigDUptoCardSaid : Prop := Claim7.holds Tryd.pinned (.plain (OpenSpec.upto cursorBigDSpec)) cursorBigDUptoCard

/-- THE SECOND FORM's CARD OF 'beaconlaw10.CursorBigE'. -/
def cursorBigEUptoCard : Claim7 := { stood := { row := cursorBigEUptoRow, standIns := [], harness := (true, "35452cdd65cb51ab8b709460a0442fa75a313bbb77346288e7a427c474ba77ee"), looks := false }, kinds := [], alts := [], laidByText := true, laidKinds := [.data, .pinned], laidTests := true, laidLooks := .later }
def CursorBigEUptoCardSaid : Prop := Claim7.holds Tryd.pinned (.plain (OpenSpec.upto cursorBigESpec)) cursorBigEUptoCard

/-- THE SECOND FORM's CARD OF 'beaconlaw10.CursorBigF'. -/
def cursorBigFUptoCard : Claim7 := { stood := { row := cursorBigFUptoRow, standIns := [], harness := (true, "35452cdd65cb51ab8b709460a0442fa75a313bbb77346288e7a427c474ba77ee"), looks := false }, kinds := [], alts := [], laidByText := true, laidKinds := [.data, .pinned], laidTests := true, laidLooks := .later }
def CursorBigFUptoCardSaid : Prop := Claim7.holds Tryd.pinned (.plain (OpenSpec.upto cursorBigFSpec)) cursorBigFUptoCard

/-- THE SECOND FORM's CARD OF 'beaconlaw10.CursorBigG'. -/
def cursorBigGUptoCard : Claim7 := { stood := { row := cursorBigGUptoRow, standIns := [], harness := (true, "35452cdd65cb51ab8b709460a0442fa75a313bbb77346288e7a427c474ba77ee"), looks := false }, kinds := [], alts := [], laidByText := true, laidKinds := [.data, .pinned], laidTests := true, laidLooks := .later }
def CursorBigGUptoCardSaid : Prop := Claim7.holds Tryd.pinned (.plain (OpenSpec.upto cursorBigGSpec)) cursorBigGUptoCard

/-- THE SECOND FORM's CARD OF 'beaconlaw10.CursorD'. -/
def cursorDUptoCard : Claim7 := { stood := { row := cursorDUptoRow, standIns := [], harness := (true, "35452cdd65cb51ab8b709460a0442fa75a313bbb77346288e7a427c474ba77ee"), looks := false }, kinds := [], alts := [], laidByText := true, laidKinds := [.data, .pinned], laidTests := true, laidLooks := .later }
def CursorDUptoCardSaid : Prop := Claim7.holds Tryd.pinned (.plain (OpenSpec.upto cursorDSpec)) cursorDUptoCard

/-- THE SECOND FORM's CARD OF 'beaconlaw10.CursorBigH'. -/
def cursorBigHUptoCard : Claim7 := { stood := { row := cursorBigHUptoRow, standIns := [], harness := (true, "35452cdd65cb51ab8b709460a0442fa75a313bbb77346288e7a427c474ba77ee"), looks := false }, kinds := [], alts := [], laidByText := true, laidKinds := [.data, .pinned], laidTests := true, laidLooks := .later }
def CursorBigHUptoCardSaid : Prop := Claim7.holds Tryd.pinned (.plain (OpenSpec.upto cursorBigHSpec)) cursorBigHUptoCard

/-- THE SECOND FORM's CARD OF 'beaconlaw10.CursorBigI'. -/
def cursorBigIUptoCard : Claim7 := { stood := { row := cursorBigIUptoRow, standIns := [], harness := (true, "35452cdd65cb51ab8b709460a0442fa75a313bbb77346288e7a427c474ba77ee"), looks := false }, kinds := [], alts := [], laidByText := true, laidKinds := [.data, .pinned], laidTests := true, laidLooks := .later }
def CursorBigIUptoCardSaid : Prop := Claim7.holds Tryd.pinned (.plain (OpenSpec.upto cursorBigISpec)) cursorBigIUptoCard

/-- THE SECOND FORM's CARD OF 'beaconlaw10.CursorBigZ'. -/
def cursorBigZUptoCard : Claim7 := { stood := { row := cursorBigZUptoRow, standIns := [], harness := (true, "35452cdd65cb51ab8b709460a0442fa75a313bbb77346288e7a427c474ba77ee"), looks := false }, kinds := [], alts := [], laidByText := true, laidKinds := [.data, .pinned], laidTests := true, laidLooks := .later }
def CursorBigZUptoCardSaid : Prop := Claim7.holds Tryd.pinned (.plain (OpenSpec.upto cursorBigZSpec)) cursorBigZUptoCard

/-- THE SECOND FORM's CARD OF 'beaconlaw10.CursorWithin'. -/
def cursorWithinUptoCard : Claim7 := { stood := { row := cursorWithinUptoRow, standIns := [], harness := (true, "35452cdd65cb51ab8b709460a0442fa75a313bbb77346288e7a427c474ba77ee"), looks := false }, kinds := [], alts := [], laidByText := true, laidKinds := [.data, .pinned], laidTests := true, laidLooks := .later }
def CursorWithinUptoCardSaid : Prop := Claim7.holds Tryd.pinned (.plain (OpenSpec.upto cursorWithinSpec)) cursorWithinUptoCard

/-- THE SECOND FORM's CARD OF 'beaconlaw10.CursorKeeps'. -/
def cursorKeepsUptoCard : Claim7 := { stood := { row := cursorKeepsUptoRow, standIns := [], harness := (true, "35452cdd65cb51ab8b709460a0442fa75a313bbb77346288e7a427c474ba77ee"), looks := false }, kinds := [], alts := [], laidByText := true, laidKinds := [.data, .pinned], laidTests := true, laidLooks := .later }
def CursorKeepsUptoCardSaid : Prop := Claim7.holds Tryd.pinned (.plain (OpenSpec.upto cursorKeepsSpec)) cursorKeepsUptoCard
end Rows
end Go.Proofs.YtbjckahaalbpaaaDoor
