/-
  NARROWER THAN 'FOR EVERY INPUT', by the rows' own cells (each row's printed sentence says how): CursorUp: laid · CursorDown: laid · CursorSide: laid · CursorTo: laid · CursorTab: laid · CursorBigA: laid · CursorBigB: laid · CursorBigC: laid · CursorBigD: laid · CursorBigE: laid · CursorBigF: laid · CursorBigG: laid · CursorD: laid · CursorBigH: laid · CursorBigI: laid · CursorBigZ: laid · CursorWithin: laid · CursorKeeps: laid.
  DERIVED. THE GIVEN ROWS OF THIS SEAT. 18 by the template 'for every input the law returns true; each argument reads behind the call as it read before'; 0 by the template 'total and deterministic' (their statements: YtbjckahaalbpaaaDoorTotals.lean).
  GIVEN WITH THE SEED: the statements are not yours to turn. If you find one false, say at which input.
  Laid BY PROGRAM, IN A SANDBOX (cutbox-rows.mjs): the forced cells as the released guide's own fill.sh prints them over the translation 8ba54d9d85835917… (all of the seat's roots in one cut). By AI agents, Wed Nov 11 2026. No macro, syntax, notation, axiom, sorry.
-/
import Derived.Test.YtbjckahaalbpaaaDoorChecked
import GoSem.PinnedTables
import GoSem.Claim
import GoSem.ClaimJoined
import GoSem.ClaimMapViews
import Derived.JoinedTies
import Derived.KernelRfl
namespace Go.Proofs.YtbjckahaalbpaaaDoor
/- THE CELL 'sum', in the pinned program and in every row, IS THE sha256 OF THE DUMP (.gsa) THAT YtbjckahaalbpaaaDoorProg.lean LOADS. Nothing in Lean hashes anything: it is a label: what it is worth is what the hold of that sum in a sandbox is worth. -/
noncomputable def Tryd.pinned : Pinned := { name := "ytbjckahaalbpaaadoor", sum := "8ba54d9d85835917ea76980fc6dc7a6138b0be377a0c90a17bb1bc9847fac955", checked := Tryd.checked }
namespace Rows
def none {H : Type} : Left H := { results := [], args := [] }

/- WHAT THE LISTED PACKAGE-LEVEL VARIABLES READ AS WHEN THE CALL BEGINS. Each datum BY PROGRAM (the guide's laid-datum.mjs) off the statement by which the dump's own 'gosem.cut.vars' lays the variable. In a bare row this is a premise. The card (YtbjckahaalbpaaaDoorCards.lean) ties it to the program's text. -/
def laid_unicode_utf8_acceptRanges {H : Type} : DataW H := .agg [.agg [.lit (.int .u8 128), .lit (.int .u8 191)], .agg [.lit (.int .u8 160), .lit (.int .u8 191)], .agg [.lit (.int .u8 128), .lit (.int .u8 159)], .agg [.lit (.int .u8 144), .lit (.int .u8 191)], .agg [.lit (.int .u8 128), .lit (.int .u8 143)], .agg [.lit (.int .u8 0), .lit (.int .u8 0)], .agg [.lit (.int .u8 0), .lit (.int .u8 0)], .agg [.lit (.int .u8 0), .lit (.int .u8 0)], .agg [.lit (.int .u8 0), .lit (.int .u8 0)], .agg [.lit (.int .u8 0), .lit (.int .u8 0)], .agg [.lit (.int .u8 0), .lit (.int .u8 0)], .agg [.lit (.int .u8 0), .lit (.int .u8 0)], .agg [.lit (.int .u8 0), .lit (.int .u8 0)], .agg [.lit (.int .u8 0), .lit (.int .u8 0)], .agg [.lit (.int .u8 0), .lit (.int .u8 0)], .agg [.lit (.int .u8 0), .lit (.int .u8 0)]]
/-- One of Go's own tables, pinned by name: the form's constant. -/
def laid_unicode_utf8_first : DataW Unit := Go.Pinned.utf8First

/-- 'beaconlaw10.CursorUp': WHATEVER THE INPUT: true; the input reads as it did. -/
def cursorUpSpec : ChangeSpec := { name := "cursorUp", fn := fun _ => fun
  | [d] => { results := [.lit (.bool true)], args := [d] }
  | _ => none }
def cursorUpRow : OpenClaim := { program := "ytbjckahaalbpaaadoor", sum := "8ba54d9d85835917ea76980fc6dc7a6138b0be377a0c90a17bb1bc9847fac955", func := "beacon/beaconlaw10.CursorUp", spec := "cursorUp", inPlace := ["internal/bytealg.IndexByteString", "internal/bytealg.IndexString"], unfollowed := true, recurses := true, named := ["unicode/utf8.first", "unicode/utf8.acceptRanges", "internal/bytealg.MaxLen"], apart := false, laid := [("unicode/utf8.acceptRanges", laid_unicode_utf8_acceptRanges), ("unicode/utf8.first", laid_unicode_utf8_first)] }
def CursorUpSaid : Prop := cursorUpRow.holds Tryd.pinned (OpenSpec.ofChange cursorUpSpec)

/-- ITS FALSE NEIGHBOUR: 'it returns false'. Refute it at one input. -/
def cursorUpWrong : ChangeSpec := { name := "cursorUp", fn := fun _ => fun
  | [d] => { results := [.lit (.bool false)], args := [d] }
  | _ => none }
def CursorUpWrongFalsely : Prop := cursorUpRow.holds Tryd.pinned (OpenSpec.ofChange cursorUpWrong)

/-- 'beaconlaw10.CursorDown': WHATEVER THE INPUT: true; the input reads as it did. -/
def cursorDownSpec : ChangeSpec := { name := "cursorDown", fn := fun _ => fun
  | [d] => { results := [.lit (.bool true)], args := [d] }
  | _ => none }
def cursorDownRow : OpenClaim := { program := "ytbjckahaalbpaaadoor", sum := "8ba54d9d85835917ea76980fc6dc7a6138b0be377a0c90a17bb1bc9847fac955", func := "beacon/beaconlaw10.CursorDown", spec := "cursorDown", inPlace := ["internal/bytealg.IndexByteString", "internal/bytealg.IndexString"], unfollowed := true, recurses := true, named := ["unicode/utf8.first", "unicode/utf8.acceptRanges", "internal/bytealg.MaxLen"], apart := false, laid := [("unicode/utf8.acceptRanges", laid_unicode_utf8_acceptRanges), ("unicode/utf8.first", laid_unicode_utf8_first)] }
def CursorDownSaid : Prop := cursorDownRow.holds Tryd.pinned (OpenSpec.ofChange cursorDownSpec)

/-- ITS FALSE NEIGHBOUR: 'it returns false'. Refute it at one input. -/
def cursorDownWrong : ChangeSpec := { name := "cursorDown", fn := fun _ => fun
  | [d] => { results := [.lit (.bool false)], args := [d] }
  | _ => none }
def CursorDownWrongFalsely : Prop := cursorDownRow.holds Tryd.pinned (OpenSpec.ofChange cursorDownWrong)

/-- 'beaconlaw10.CursorSide': WHATEVER THE INPUT: true; the input reads as it did. -/
def cursorSideSpec : ChangeSpec := { name := "cursorSide", fn := fun _ => fun
  | [d] => { results := [.lit (.bool true)], args := [d] }
  | _ => none }
def cursorSideRow : OpenClaim := { program := "ytbjckahaalbpaaadoor", sum := "8ba54d9d85835917ea76980fc6dc7a6138b0be377a0c90a17bb1bc9847fac955", func := "beacon/beaconlaw10.CursorSide", spec := "cursorSide", inPlace := ["internal/bytealg.IndexByteString", "internal/bytealg.IndexString"], unfollowed := true, recurses := true, named := ["unicode/utf8.first", "unicode/utf8.acceptRanges", "internal/bytealg.MaxLen"], apart := false, laid := [("unicode/utf8.acceptRanges", laid_unicode_utf8_acceptRanges), ("unicode/utf8.first", laid_unicode_utf8_first)] }
def CursorSideSaid : Prop := cursorSideRow.holds Tryd.pinned (OpenSpec.ofChange cursorSideSpec)

/-- ITS FALSE NEIGHBOUR: 'it returns false'. Refute it at one input. -/
def cursorSideWrong : ChangeSpec := { name := "cursorSide", fn := fun _ => fun
  | [d] => { results := [.lit (.bool false)], args := [d] }
  | _ => none }
def CursorSideWrongFalsely : Prop := cursorSideRow.holds Tryd.pinned (OpenSpec.ofChange cursorSideWrong)

/-- 'beaconlaw10.CursorTo': WHATEVER THE INPUT: true; the input reads as it did. -/
def cursorToSpec : ChangeSpec := { name := "cursorTo", fn := fun _ => fun
  | [d] => { results := [.lit (.bool true)], args := [d] }
  | _ => none }
def cursorToRow : OpenClaim := { program := "ytbjckahaalbpaaadoor", sum := "8ba54d9d85835917ea76980fc6dc7a6138b0be377a0c90a17bb1bc9847fac955", func := "beacon/beaconlaw10.CursorTo", spec := "cursorTo", inPlace := ["internal/bytealg.IndexByteString", "internal/bytealg.IndexString"], unfollowed := true, recurses := true, named := ["unicode/utf8.first", "unicode/utf8.acceptRanges", "internal/bytealg.MaxLen"], apart := false, laid := [("unicode/utf8.acceptRanges", laid_unicode_utf8_acceptRanges), ("unicode/utf8.first", laid_unicode_utf8_first)] }
def CursorToSaid : Prop := cursorToRow.holds Tryd.pinned (OpenSpec.ofChange cursorToSpec)

/-- ITS FALSE NEIGHBOUR: 'it returns false'. Refute it at one input. -/
def cursorToWrong : ChangeSpec := { name := "cursorTo", fn := fun _ => fun
  | [d] => { results := [.lit (.bool false)], args := [d] }
  | _ => none }
def CursorToWrongFalsely : Prop := cursorToRow.holds Tryd.pinned (OpenSpec.ofChange cursorToWrong)

/-- 'beaconlaw10.CursorTab': WHATEVER THE INPUT: true; the input reads as it did. -/
def cursorTabSpec : ChangeSpec := { name := "cursorTab", fn := fun _ => fun
  | [d] => { results := [.lit (.bool true)], args := [d] }
  | _ => none }
def cursorTabRow : OpenClaim := { program := "ytbjckahaalbpaaadoor", sum := "8ba54d9d85835917ea76980fc6dc7a6138b0be377a0c90a17bb1bc9847fac955", func := "beacon/beaconlaw10.CursorTab", spec := "cursorTab", inPlace := ["internal/bytealg.IndexByteString", "internal/bytealg.IndexString"], unfollowed := true, recurses := true, named := ["unicode/utf8.first", "unicode/utf8.acceptRanges", "internal/bytealg.MaxLen"], apart := false, laid := [("unicode/utf8.acceptRanges", laid_unicode_utf8_acceptRanges), ("unicode/utf8.first", laid_unicode_utf8_first)] }
def CursorTabSaid : Prop := cursorTabRow.holds Tryd.pinned (OpenSpec.ofChange cursorTabSpec)

/-- ITS FALSE NEIGHBOUR: 'it returns false'. Refute it at one input. -/
def cursorTabWrong : ChangeSpec := { name := "cursorTab", fn := fun _ => fun
  | [d] => { results := [.lit (.bool false)], args := [d] }
  | _ => none }
def CursorTabWrongFalsely : Prop := cursorTabRow.holds Tryd.pinned (OpenSpec.ofChange cursorTabWrong)

/-- 'beaconlaw10.CursorBigA': WHATEVER THE INPUT: true; the input reads as it did. -/
def cursorBigASpec : ChangeSpec := { name := "cursorBigA", fn := fun _ => fun
  | [d] => { results := [.lit (.bool true)], args := [d] }
  | _ => none }
def cursorBigARow : OpenClaim := { program := "ytbjckahaalbpaaadoor", sum := "8ba54d9d85835917ea76980fc6dc7a6138b0be377a0c90a17bb1bc9847fac955", func := "beacon/beaconlaw10.CursorBigA", spec := "cursorBigA", inPlace := ["internal/bytealg.IndexByteString", "internal/bytealg.IndexString"], unfollowed := true, recurses := true, named := ["unicode/utf8.first", "unicode/utf8.acceptRanges", "internal/bytealg.MaxLen"], apart := false, laid := [("unicode/utf8.acceptRanges", laid_unicode_utf8_acceptRanges), ("unicode/utf8.first", laid_unicode_utf8_first)] }
def CursorBigASaid : Prop := cursorBigARow.holds Tryd.pinned (OpenSpec.ofChange cursorBigASpec)

/-- ITS FALSE NEIGHBOUR: 'it returns false'. Refute it at one input. -/
def cursorBigAWrong : ChangeSpec := { name := "cursorBigA", fn := fun _ => fun
  | [d] => { results := [.lit (.bool false)], args := [d] }
  | _ => none }
def CursorBigAWrongFalsely : Prop := cursorBigARow.holds Tryd.pinned (OpenSpec.ofChange cursorBigAWrong)

/-- 'beaconlaw10.CursorBigB': WHATEVER THE INPUT: true; the input reads as it did. -/
def cursorBigBSpec : ChangeSpec := { name := "cursorBigB", fn := fun _ => fun
  | [d] => { results := [.lit (.bool true)], args := [d] }
  | _ => none }
def cursorBigBRow : OpenClaim := { program := "ytbjckahaalbpaaadoor", sum := "8ba54d9d85835917ea76980fc6dc7a6138b0be377a0c90a17bb1bc9847fac955", func := "beacon/beaconlaw10.CursorBigB", spec := "cursorBigB", inPlace := ["internal/bytealg.IndexByteString", "internal/bytealg.IndexString"], unfollowed := true, recurses := true, named := ["unicode/utf8.first", "unicode/utf8.acceptRanges", "internal/bytealg.MaxLen"], apart := false, laid := [("unicode/utf8.acceptRanges", laid_unicode_utf8_acceptRanges), ("unicode/utf8.first", laid_unicode_utf8_first)] }
def CursorBigBSaid : Prop := cursorBigBRow.holds Tryd.pinned (OpenSpec.ofChange cursorBigBSpec)

/-- ITS FALSE NEIGHBOUR: 'it returns false'. Refute it at one input. -/
def cursorBigBWrong : ChangeSpec := { name := "cursorBigB", fn := fun _ => fun
  | [d] => { results := [.lit (.bool false)], args := [d] }
  | _ => none }
def CursorBigBWrongFalsely : Prop := cursorBigBRow.holds Tryd.pinned (OpenSpec.ofChange cursorBigBWrong)

/-- 'beaconlaw10.CursorBigC': WHATEVER THE INPUT: true; the input reads as it did. -/
def cursorBigCSpec : ChangeSpec := { name := "cursorBigC", fn := fun _ => fun
  | [d] => { results := [.lit (.bool true)], args := [d] }
  | _ => none }
def cursorBigCRow : OpenClaim := { program := "ytbjckahaalbpaaadoor", sum := "8ba54d9d85835917ea76980fc6dc7a6138b0be377a0c90a17bb1bc9847fac955", func := "beacon/beaconlaw10.CursorBigC", spec := "cursorBigC", inPlace := ["internal/bytealg.IndexByteString", "internal/bytealg.IndexString"], unfollowed := true, recurses := true, named := ["unicode/utf8.first", "unicode/utf8.acceptRanges", "internal/bytealg.MaxLen"], apart := false, laid := [("unicode/utf8.acceptRanges", laid_unicode_utf8_acceptRanges), ("unicode/utf8.first", laid_unicode_utf8_first)] }
def CursorBigCSaid : Prop := cursorBigCRow.holds Tryd.pinned (OpenSpec.ofChange cursorBigCSpec)

/-- ITS FALSE NEIGHBOUR: 'it returns false'. Refute it at one input. -/
def cursorBigCWrong : ChangeSpec := { name := "cursorBigC", fn := fun _ => fun
  | [d] => { results := [.lit (.bool false)], args := [d] }
  | _ => none }
def CursorBigCWrongFalsely : Prop := cursorBigCRow.holds Tryd.pinned (OpenSpec.ofChange cursorBigCWrong)

/-- 'beaconlaw10.CursorBigD': WHATEVER THE INPUT: true; the input reads as it did. -/
def cursorBigDSpec : ChangeSpec := { name := "cursorBigD", fn := fun _ => fun
  | [d] => { results := [.lit (.bool true)], args := [d] }
  | _ => none }
def cursorBigDRow : OpenClaim := { program := "ytbjckahaalbpaaadoor", sum := "8ba54d9d85835917ea76980fc6dc7a6138b0be377a0c90a17bb1bc9847fac955", func := "beacon/beaconlaw10.CursorBigD", spec := "cursorBigD", inPlace := ["internal/bytealg.IndexByteString", "internal/bytealg.IndexString"], unfollowed := true, recurses := true, named := ["unicode/utf8.first", "unicode/utf8.acceptRanges", "internal/bytealg.MaxLen"], apart := false, laid := [("unicode/utf8.acceptRanges", laid_unicode_utf8_acceptRanges), ("unicode/utf8.first", laid_unicode_utf8_first)] }
def CursorBigDSaid : Prop := cursorBigDRow.holds Tryd.pinned (OpenSpec.ofChange cursorBigDSpec)

/-- ITS FALSE NEIGHBOUR: 'it returns false'. Refute it at one input. -/
def cursorBigDWrong : ChangeSpec := { name := "cursorBigD", fn := fun _ => fun
  | [d] => { results := [.lit (.bool false)], args := [d] }
  | _ => none }
def CursorBigDWrongFalsely : Prop := cursorBigDRow.holds Tryd.pinned (OpenSpec.ofChange cursorBigDWrong)

/-- 'beaconlaw10.CursorBigE': WHATEVER THE INPUT: true; the input reads as it did. -/
def cursorBigESpec : ChangeSpec := { name := "cursorBigE", fn := fun _ => fun
  | [d] => { results := [.lit (.bool true)], args := [d] }
  | _ => none }
def cursorBigERow : OpenClaim := { program := "ytbjckahaalbpaaadoor", sum := "8ba54d9d85835917ea76980fc6dc7a6138b0be377a0c90a17bb1bc9847fac955", func := "beacon/beaconlaw10.CursorBigE", spec := "cursorBigE", inPlace := ["internal/bytealg.IndexByteString", "internal/bytealg.IndexString"], unfollowed := true, recurses := true, named := ["unicode/utf8.first", "unicode/utf8.acceptRanges", "internal/bytealg.MaxLen"], apart := false, laid := [("unicode/utf8.acceptRanges", laid_unicode_utf8_acceptRanges), ("unicode/utf8.first", laid_unicode_utf8_first)] }
def CursorBigESaid : Prop := cursorBigERow.holds Tryd.pinned (OpenSpec.ofChange cursorBigESpec)

/-- ITS FALSE NEIGHBOUR: 'it returns false'. Refute it at one input. -/
def cursorBigEWrong : ChangeSpec := { name := "cursorBigE", fn := fun _ => fun
  | [d] => { results := [.lit (.bool false)], args := [d] }
  | _ => none }
def CursorBigEWrongFalsely : Prop := cursorBigERow.holds Tryd.pinned (OpenSpec.ofChange cursorBigEWrong)

/-- 'beaconlaw10.CursorBigF': WHATEVER THE INPUT: true; the input reads as it did. -/
def cursorBigFSpec : ChangeSpec := { name := "cursorBigF", fn := fun _ => fun
  | [d] => { results := [.lit (.bool true)], args := [d] }
  | _ => none }
def cursorBigFRow : OpenClaim := { program := "ytbjckahaalbpaaadoor", sum := "8ba54d9d85835917ea76980fc6dc7a6138b0be377a0c90a17bb1bc9847fac955", func := "beacon/beaconlaw10.CursorBigF", spec := "cursorBigF", inPlace := ["internal/bytealg.IndexByteString", "internal/bytealg.IndexString"], unfollowed := true, recurses := true, named := ["unicode/utf8.first", "unicode/utf8.acceptRanges", "internal/bytealg.MaxLen"], apart := false, laid := [("unicode/utf8.acceptRanges", laid_unicode_utf8_acceptRanges), ("unicode/utf8.first", laid_unicode_utf8_first)] }
def CursorBigFSaid : Prop := cursorBigFRow.holds Tryd.pinned (OpenSpec.ofChange cursorBigFSpec)

/-- ITS FALSE NEIGHBOUR: 'it returns false'. Refute it at one input. -/
def cursorBigFWrong : ChangeSpec := { name := "cursorBigF", fn := fun _ => fun
  | [d] => { results := [.lit (.bool false)], args := [d] }
  | _ => none }
def CursorBigFWrongFalsely : Prop := cursorBigFRow.holds Tryd.pinned (OpenSpec.ofChange cursorBigFWrong)

/-- 'beaconlaw10.CursorBigG': WHATEVER THE INPUT: true; the input reads as it did. -/
def cursorBigGSpec : ChangeSpec := { name := "cursorBigG", fn := fun _ => fun
  | [d] => { results := [.lit (.bool true)], args := [d] }
  | _ => none }
def cursorBigGRow : OpenClaim := { program := "ytbjckahaalbpaaadoor", sum := "8ba54d9d85835917ea76980fc6dc7a6138b0be377a0c90a17bb1bc9847fac955", func := "beacon/beaconlaw10.CursorBigG", spec := "cursorBigG", inPlace := ["internal/bytealg.IndexByteString", "internal/bytealg.IndexString"], unfollowed := true, recurses := true, named := ["unicode/utf8.first", "unicode/utf8.acceptRanges", "internal/bytealg.MaxLen"], apart := false, laid := [("unicode/utf8.acceptRanges", laid_unicode_utf8_acceptRanges), ("unicode/utf8.first", laid_unicode_utf8_first)] }
def CursorBigGSaid : Prop := cursorBigGRow.holds Tryd.pinned (OpenSpec.ofChange cursorBigGSpec)

/-- ITS FALSE NEIGHBOUR: 'it returns false'. Refute it at one input. -/
def cursorBigGWrong : ChangeSpec := { name := "cursorBigG", fn := fun _ => fun
  | [d] => { results := [.lit (.bool false)], args := [d] }
  | _ => none }
def CursorBigGWrongFalsely : Prop := cursorBigGRow.holds Tryd.pinned (OpenSpec.ofChange cursorBigGWrong)

/-- 'beaconlaw10.CursorD': WHATEVER THE INPUT: true; the input reads as it did. -/
def cursorDSpec : ChangeSpec := { name := "cursorD", fn := fun _ => fun
  | [d] => { results := [.lit (.bool true)], args := [d] }
  | _ => none }
def cursorDRow : OpenClaim := { program := "ytbjckahaalbpaaadoor", sum := "8ba54d9d85835917ea76980fc6dc7a6138b0be377a0c90a17bb1bc9847fac955", func := "beacon/beaconlaw10.CursorD", spec := "cursorD", inPlace := ["internal/bytealg.IndexByteString", "internal/bytealg.IndexString"], unfollowed := true, recurses := true, named := ["unicode/utf8.first", "unicode/utf8.acceptRanges", "internal/bytealg.MaxLen"], apart := false, laid := [("unicode/utf8.acceptRanges", laid_unicode_utf8_acceptRanges), ("unicode/utf8.first", laid_unicode_utf8_first)] }
def CursorDSaid : Prop := cursorDRow.holds Tryd.pinned (OpenSpec.ofChange cursorDSpec)

/-- ITS FALSE NEIGHBOUR: 'it returns false'. Refute it at one input. -/
def cursorDWrong : ChangeSpec := { name := "cursorD", fn := fun _ => fun
  | [d] => { results := [.lit (.bool false)], args := [d] }
  | _ => none }
def CursorDWrongFalsely : Prop := cursorDRow.holds Tryd.pinned (OpenSpec.ofChange cursorDWrong)

/-- 'beaconlaw10.CursorBigH': WHATEVER THE INPUT: true; the input reads as it did. -/
def cursorBigHSpec : ChangeSpec := { name := "cursorBigH", fn := fun _ => fun
  | [d] => { results := [.lit (.bool true)], args := [d] }
  | _ => none }
def cursorBigHRow : OpenClaim := { program := "ytbjckahaalbpaaadoor", sum := "8ba54d9d85835917ea76980fc6dc7a6138b0be377a0c90a17bb1bc9847fac955", func := "beacon/beaconlaw10.CursorBigH", spec := "cursorBigH", inPlace := ["internal/bytealg.IndexByteString", "internal/bytealg.IndexString"], unfollowed := true, recurses := true, named := ["unicode/utf8.first", "unicode/utf8.acceptRanges", "internal/bytealg.MaxLen"], apart := false, laid := [("unicode/utf8.acceptRanges", laid_unicode_utf8_acceptRanges), ("unicode/utf8.first", laid_unicode_utf8_first)] }
def CursorBigHSaid : Prop := cursorBigHRow.holds Tryd.pinned (OpenSpec.ofChange cursorBigHSpec)

/-- ITS FALSE NEIGHBOUR: 'it returns false'. Refute it at one input. -/
def cursorBigHWrong : ChangeSpec := { name := "cursorBigH", fn := fun _ => fun
  | [d] => { results := [.lit (.bool false)], args := [d] }
  | _ => none }
def CursorBigHWrongFalsely : Prop := cursorBigHRow.holds Tryd.pinned (OpenSpec.ofChange cursorBigHWrong)

/-- 'beaconlaw10.CursorBigI': WHATEVER THE INPUT: true; the input reads as it did. -/
def cursorBigISpec : ChangeSpec := { name := "cursorBigI", fn := fun _ => fun
  | [d] => { results := [.lit (.bool true)], args := [d] }
  | _ => none }
def cursorBigIRow : OpenClaim := { program := "ytbjckahaalbpaaadoor", sum := "8ba54d9d85835917ea76980fc6dc7a6138b0be377a0c90a17bb1bc9847fac955", func := "beacon/beaconlaw10.CursorBigI", spec := "cursorBigI", inPlace := ["internal/bytealg.IndexByteString", "internal/bytealg.IndexString"], unfollowed := true, recurses := true, named := ["unicode/utf8.first", "unicode/utf8.acceptRanges", "internal/bytealg.MaxLen"], apart := false, laid := [("unicode/utf8.acceptRanges", laid_unicode_utf8_acceptRanges), ("unicode/utf8.first", laid_unicode_utf8_first)] }
def CursorBigISaid : Prop := cursorBigIRow.holds Tryd.pinned (OpenSpec.ofChange cursorBigISpec)

/-- ITS FALSE NEIGHBOUR: 'it returns false'. Refute it at one input. -/
def cursorBigIWrong : ChangeSpec := { name := "cursorBigI", fn := fun _ => fun
  | [d] => { results := [.lit (.bool false)], args := [d] }
  | _ => none }
def CursorBigIWrongFalsely : Prop := cursorBigIRow.holds Tryd.pinned (OpenSpec.ofChange cursorBigIWrong)

/-- 'beaconlaw10.CursorBigZ': WHATEVER THE INPUT: true; the input reads as it did. -/
def cursorBigZSpec : ChangeSpec := { name := "cursorBigZ", fn := fun _ => fun
  | [d] => { results := [.lit (.bool true)], args := [d] }
  | _ => none }
def cursorBigZRow : OpenClaim := { program := "ytbjckahaalbpaaadoor", sum := "8ba54d9d85835917ea76980fc6dc7a6138b0be377a0c90a17bb1bc9847fac955", func := "beacon/beaconlaw10.CursorBigZ", spec := "cursorBigZ", inPlace := ["internal/bytealg.IndexByteString", "internal/bytealg.IndexString"], unfollowed := true, recurses := true, named := ["unicode/utf8.first", "unicode/utf8.acceptRanges", "internal/bytealg.MaxLen"], apart := false, laid := [("unicode/utf8.acceptRanges", laid_unicode_utf8_acceptRanges), ("unicode/utf8.first", laid_unicode_utf8_first)] }
def CursorBigZSaid : Prop := cursorBigZRow.holds Tryd.pinned (OpenSpec.ofChange cursorBigZSpec)

/-- ITS FALSE NEIGHBOUR: 'it returns false'. Refute it at one input. -/
def cursorBigZWrong : ChangeSpec := { name := "cursorBigZ", fn := fun _ => fun
  | [d] => { results := [.lit (.bool false)], args := [d] }
  | _ => none }
def CursorBigZWrongFalsely : Prop := cursorBigZRow.holds Tryd.pinned (OpenSpec.ofChange cursorBigZWrong)

/-- 'beaconlaw10.CursorWithin': WHATEVER THE INPUT: true; the input reads as it did. -/
def cursorWithinSpec : ChangeSpec := { name := "cursorWithin", fn := fun _ => fun
  | [d] => { results := [.lit (.bool true)], args := [d] }
  | _ => none }
def cursorWithinRow : OpenClaim := { program := "ytbjckahaalbpaaadoor", sum := "8ba54d9d85835917ea76980fc6dc7a6138b0be377a0c90a17bb1bc9847fac955", func := "beacon/beaconlaw10.CursorWithin", spec := "cursorWithin", inPlace := ["internal/bytealg.IndexByteString", "internal/bytealg.IndexString"], unfollowed := true, recurses := true, named := ["unicode/utf8.first", "unicode/utf8.acceptRanges", "internal/bytealg.MaxLen"], apart := false, laid := [("unicode/utf8.acceptRanges", laid_unicode_utf8_acceptRanges), ("unicode/utf8.first", laid_unicode_utf8_first)] }
def CursorWithinSaid : Prop := cursorWithinRow.holds Tryd.pinned (OpenSpec.ofChange cursorWithinSpec)

/-- ITS FALSE NEIGHBOUR: 'it returns false'. Refute it at one input. -/
def cursorWithinWrong : ChangeSpec := { name := "cursorWithin", fn := fun _ => fun
  | [d] => { results := [.lit (.bool false)], args := [d] }
  | _ => none }
def CursorWithinWrongFalsely : Prop := cursorWithinRow.holds Tryd.pinned (OpenSpec.ofChange cursorWithinWrong)

/-- 'beaconlaw10.CursorKeeps': WHATEVER THE INPUT: true; the input reads as it did. -/
def cursorKeepsSpec : ChangeSpec := { name := "cursorKeeps", fn := fun _ => fun
  | [d] => { results := [.lit (.bool true)], args := [d] }
  | _ => none }
def cursorKeepsRow : OpenClaim := { program := "ytbjckahaalbpaaadoor", sum := "8ba54d9d85835917ea76980fc6dc7a6138b0be377a0c90a17bb1bc9847fac955", func := "beacon/beaconlaw10.CursorKeeps", spec := "cursorKeeps", inPlace := ["internal/bytealg.IndexByteString", "internal/bytealg.IndexString"], unfollowed := true, recurses := true, named := ["unicode/utf8.first", "unicode/utf8.acceptRanges", "internal/bytealg.MaxLen"], apart := false, laid := [("unicode/utf8.acceptRanges", laid_unicode_utf8_acceptRanges), ("unicode/utf8.first", laid_unicode_utf8_first)] }
def CursorKeepsSaid : Prop := cursorKeepsRow.holds Tryd.pinned (OpenSpec.ofChange cursorKeepsSpec)

/-- ITS FALSE NEIGHBOUR: 'it returns false'. Refute it at one input. -/
def cursorKeepsWrong : ChangeSpec := { name := "cursorKeeps", fn := fun _ => fun
  | [d] => { results := [.lit (.bool false)], args := [d] }
  | _ => none }
def CursorKeepsWrongFalsely : Prop := cursorKeepsRow.holds Tryd.pinned (OpenSpec.ofChange cursorKeepsWrong)

/- THE SECOND FORM. 'bulk': how many values and letters a reading holds, each counted each time it is reached (what is shared counts as often as it is met; a slice's spare places count too). A statement '..UptoSaid' is the law's where the arguments, and the package variables that the reading takes, are together of bulk at most 1048576: NARROWER than '..Said'. Prove '..Said' where nothing that the law and all that it calls make is longer than what came in: it says more and counts as full. Else prove '..UptoSaid'. A law counts once. -/
mutual
def uptoBulk {H : Type} : DataW H → Nat
  | .lit (.string bytes) => bytes.length + 1
  | .lit _ => 1
  | .nil => 1
  | .ptr d => uptoBulk d + 1
  | .slice elems spare => uptoBulkAll elems + uptoBulkAll spare + 1
  | .agg parts => uptoBulkAll parts + 1
  | .iface _ d => uptoBulk d + 1
  | .map entries => uptoBulkEntries entries + 1
  | .held _ => 1
def uptoBulkAll {H : Type} : List (DataW H) → Nat
  | [] => 0
  | d :: r => uptoBulk d + uptoBulkAll r
def uptoBulkEntries {H : Type} : List (Lit × DataW H) → Nat
  | [] => 0
  | x :: r => uptoBulkEntry x + uptoBulkEntries r
def uptoBulkEntry {H : Type} : Lit × DataW H → Nat
  | (.string bytes, d) => bytes.length + uptoBulk d + 1
  | (_, d) => uptoBulk d + 1
 end
def uptoSmall : (H : Type) → List (DataW H) → Bool := fun _ ds => decide (uptoBulkAll ds ≤ 1048576)
def OpenSpec.upto (s : _root_.Go.ChangeSpec) : _root_.Go.OpenSpec := { _root_.Go.OpenSpec.ofChange s with cond := some uptoSmall }

/-- 'beaconlaw10.CursorUp', WHERE WHAT IT READS IS OF BULK AT MOST 1048576: true; the input reads as it did. -/
def cursorUpUptoRow : OpenClaim := { program := "ytbjckahaalbpaaadoor", sum := "8ba54d9d85835917ea76980fc6dc7a6138b0be377a0c90a17bb1bc9847fac955", func := "beacon/beaconlaw10.CursorUp", spec := "cursorUp", inPlace := ["internal/bytealg.IndexByteString", "internal/bytealg.IndexString"], unfollowed := true, recurses := true, named := ["unicode/utf8.first", "unicode/utf8.acceptRanges", "internal/bytealg.MaxLen"], apart := false, laid := [("unicode/utf8.acceptRanges", laid_unicode_utf8_acceptRanges), ("unicode/utf8.first", laid_unicode_utf8_first)], narrowed := true }
def CursorUpUptoSaid : Prop := cursorUpUptoRow.holds Tryd.pinned (OpenSpec.upto cursorUpSpec)

/-- 'beaconlaw10.CursorDown', WHERE WHAT IT READS IS OF BULK AT MOST 1048576: true; the input reads as it did. -/
def cursorDownUptoRow : OpenClaim := { program := "ytbjckahaalbpaaadoor", sum := "8ba54d9d85835917ea76980fc6dc7a6138b0be377a0c90a17bb1bc9847fac955", func := "beacon/beaconlaw10.CursorDown", spec := "cursorDown", inPlace := ["internal/bytealg.IndexByteString", "internal/bytealg.IndexString"], unfollowed := true, recurses := true, named := ["unicode/utf8.first", "unicode/utf8.acceptRanges", "internal/bytealg.MaxLen"], apart := false, laid := [("unicode/utf8.acceptRanges", laid_unicode_utf8_acceptRanges), ("unicode/utf8.first", laid_unicode_utf8_first)], narrowed := true }
def CursorDownUptoSaid : Prop := cursorDownUptoRow.holds Tryd.pinned (OpenSpec.upto cursorDownSpec)

/-- 'beaconlaw10.CursorSide', WHERE WHAT IT READS IS OF BULK AT MOST 1048576: true; the input reads as it did. -/
def cursorSideUptoRow : OpenClaim := { program := "ytbjckahaalbpaaadoor", sum := "8ba54d9d85835917ea76980fc6dc7a6138b0be377a0c90a17bb1bc9847fac955", func := "beacon/beaconlaw10.CursorSide", spec := "cursorSide", inPlace := ["internal/bytealg.IndexByteString", "internal/bytealg.IndexString"], unfollowed := true, recurses := true, named := ["unicode/utf8.first", "unicode/utf8.acceptRanges", "internal/bytealg.MaxLen"], apart := false, laid := [("unicode/utf8.acceptRanges", laid_unicode_utf8_acceptRanges), ("unicode/utf8.first", laid_unicode_utf8_first)], narrowed := true }
def CursorSideUptoSaid : Prop := cursorSideUptoRow.holds Tryd.pinned (OpenSpec.upto cursorSideSpec)

/-- 'beaconlaw10.CursorTo', WHERE WHAT IT READS IS OF BULK AT MOST 1048576: true; the input reads as it did. -/
def cursorToUptoRow : OpenClaim := { program := "ytbjckahaalbpaaadoor", sum := "8ba54d9d85835917ea76980fc6dc7a6138b0be377a0c90a17bb1bc9847fac955", func := "beacon/beaconlaw10.CursorTo", spec := "cursorTo", inPlace := ["internal/bytealg.IndexByteString", "internal/bytealg.IndexString"], unfollowed := true, recurses := true, named := ["unicode/utf8.first", "unicode/utf8.acceptRanges", "internal/bytealg.MaxLen"], apart := false, laid := [("unicode/utf8.acceptRanges", laid_unicode_utf8_acceptRanges), ("unicode/utf8.first", laid_unicode_utf8_first)], narrowed := true }
def CursorToUptoSaid : Prop := cursorToUptoRow.holds Tryd.pinned (OpenSpec.upto cursorToSpec)

/-- 'beaconlaw10.CursorTab', WHERE WHAT IT READS IS OF BULK AT MOST 1048576: true; the input reads as it did. -/
def cursorTabUptoRow : OpenClaim := { program := "ytbjckahaalbpaaadoor", sum := "8ba54d9d85835917ea76980fc6dc7a6138b0be377a0c90a17bb1bc9847fac955", func := "beacon/beaconlaw10.CursorTab", spec := "cursorTab", inPlace := ["internal/bytealg.IndexByteString", "internal/bytealg.IndexString"], unfollowed := true, recurses := true, named := ["unicode/utf8.first", "unicode/utf8.acceptRanges", "internal/bytealg.MaxLen"], apart := false, laid := [("unicode/utf8.acceptRanges", laid_unicode_utf8_acceptRanges), ("unicode/utf8.first", laid_unicode_utf8_first)], narrowed := true }
def CursorTabUptoSaid : Prop := cursorTabUptoRow.holds Tryd.pinned (OpenSpec.upto cursorTabSpec)

/-- 'beaconlaw10.CursorBigA', WHERE WHAT IT READS IS OF BULK AT MOST 1048576: true; the input reads as it did. -/
def cursorBigAUptoRow : OpenClaim := { program := "ytbjckahaalbpaaadoor", sum := "8ba54d9d85835917ea76980fc6dc7a6138b0be377a0c90a17bb1bc9847fac955", func := "beacon/beaconlaw10.CursorBigA", spec := "cursorBigA", inPlace := ["internal/bytealg.IndexByteString", "internal/bytealg.IndexString"], unfollowed := true, recurses := true, named := ["unicode/utf8.first", "unicode/utf8.acceptRanges", "internal/bytealg.MaxLen"], apart := false, laid := [("unicode/utf8.acceptRanges", laid_unicode_utf8_acceptRanges), ("unicode/utf8.first", laid_unicode_utf8_first)], narrowed := true }
def CursorBigAUptoSaid : Prop := cursorBigAUptoRow.holds Tryd.pinned (OpenSpec.upto cursorBigASpec)

/-- 'beaconlaw10.CursorBigB', WHERE WHAT IT READS IS OF BULK AT MOST 1048576: true; the input reads as it did. -/
def cursorBigBUptoRow : OpenClaim := { program := "ytbjckahaalbpaaadoor", sum := "8ba54d9d85835917ea76980fc6dc7a6138b0be377a0c90a17bb1bc9847fac955", func := "beacon/beaconlaw10.CursorBigB", spec := "cursorBigB", inPlace := ["internal/bytealg.IndexByteString", "internal/bytealg.IndexString"], unfollowed := true, recurses := true, named := ["unicode/utf8.first", "unicode/utf8.acceptRanges", "internal/bytealg.MaxLen"], apart := false, laid := [("unicode/utf8.acceptRanges", laid_unicode_utf8_acceptRanges), ("unicode/utf8.first", laid_unicode_utf8_first)], narrowed := true }
def CursorBigBUptoSaid : Prop := cursorBigBUptoRow.holds Tryd.pinned (OpenSpec.upto cursorBigBSpec)

/-- 'beaconlaw10.CursorBigC', WHERE WHAT IT READS IS OF BULK AT MOST 1048576: true; the input reads as it did. -/
def cursorBigCUptoRow : OpenClaim := { program := "ytbjckahaalbpaaadoor", sum := "8ba54d9d85835917ea76980fc6dc7a6138b0be377a0c90a17bb1bc9847fac955", func := "beacon/beaconlaw10.CursorBigC", spec := "cursorBigC", inPlace := ["internal/bytealg.IndexByteString", "internal/bytealg.IndexString"], unfollowed := true, recurses := true, named := ["unicode/utf8.first", "unicode/utf8.acceptRanges", "internal/bytealg.MaxLen"], apart := false, laid := [("unicode/utf8.acceptRanges", laid_unicode_utf8_acceptRanges), ("unicode/utf8.first", laid_unicode_utf8_first)], narrowed := true }
def CursorBigCUptoSaid : Prop := cursorBigCUptoRow.holds Tryd.pinned (OpenSpec.upto cursorBigCSpec)

/-- 'beaconlaw10.CursorBigD', WHERE WHAT IT READS IS OF BULK AT MOST 1048576: true; the input reads as it did. -/
def cursorBigDUptoRow : OpenClaim := { program := "ytbjckahaalbpaaadoor", sum := "8ba54d9d85835917ea76980fc6dc7a6138b0be377a0c90a17bb1bc9847fac955", func := "beacon/beaconlaw10.CursorBigD", spec := "cursorBigD", inPlace := ["internal/bytealg.IndexByteString", "internal/bytealg.IndexString"], unfollowed := true, recurses := true, named := ["unicode/utf8.first", "unicode/utf8.acceptRanges", "internal/bytealg.MaxLen"], apart := false, laid := [("unicode/utf8.acceptRanges", laid_unicode_utf8_acceptRanges), ("unicode/utf8.first", laid_unicode_utf8_first)], narrowed := true }
def CursorBigDUptoSaid : Prop := cursorBigDUptoRow.holds Tryd.pinned (OpenSpec.upto cursorBigDSpec)

/-- 'beaconlaw10.CursorBigE', WHERE WHAT IT READS IS OF BULK AT MOST 1048576: true; the input reads as it did. -/
def cursorBigEUptoRow : OpenClaim := { program := "ytbjckahaalbpaaadoor", sum := "8ba54d9d85835917ea76980fc6dc7a6138b0be377a0c90a17bb1bc9847fac955", func := "beacon/beaconlaw10.CursorBigE", spec := "cursorBigE", inPlace := ["internal/bytealg.IndexByteString", "internal/bytealg.IndexString"], unfollowed := true, recurses := true, named := ["unicode/utf8.first", "unicode/utf8.acceptRanges", "internal/bytealg.MaxLen"], apart := false, laid := [("unicode/utf8.acceptRanges", laid_unicode_utf8_acceptRanges), ("unicode/utf8.first", laid_unicode_utf8_first)], narrowed := true }
def CursorBigEUptoSaid : Prop := cursorBigEUptoRow.holds Tryd.pinned (OpenSpec.upto cursorBigESpec)

/-- 'beaconlaw10.CursorBigF', WHERE WHAT IT READS IS OF BULK AT MOST 1048576: true; the input reads as it did. -/
def cursorBigFUptoRow : OpenClaim := { program := "ytbjckahaalbpaaadoor", sum := "8ba54d9d85835917ea76980fc6dc7a6138b0be377a0c90a17bb1bc9847fac955", func := "beacon/beaconlaw10.CursorBigF", spec := "cursorBigF", inPlace := ["internal/bytealg.IndexByteString", "internal/bytealg.IndexString"], unfollowed := true, recurses := true, named := ["unicode/utf8.first", "unicode/utf8.acceptRanges", "internal/bytealg.MaxLen"], apart := false, laid := [("unicode/utf8.acceptRanges", laid_unicode_utf8_acceptRanges), ("unicode/utf8.first", laid_unicode_utf8_first)], narrowed := true }
def CursorBigFUptoSaid : Prop := cursorBigFUptoRow.holds Tryd.pinned (OpenSpec.upto cursorBigFSpec)

/-- 'beaconlaw10.CursorBigG', WHERE WHAT IT READS IS OF BULK AT MOST 1048576: true; the input reads as it did. -/
def cursorBigGUptoRow : OpenClaim := { program := "ytbjckahaalbpaaadoor", sum := "8ba54d9d85835917ea76980fc6dc7a6138b0be377a0c90a17bb1bc9847fac955", func := "beacon/beaconlaw10.CursorBigG", spec := "cursorBigG", inPlace := ["internal/bytealg.IndexByteString", "internal/bytealg.IndexString"], unfollowed := true, recurses := true, named := ["unicode/utf8.first", "unicode/utf8.acceptRanges", "internal/bytealg.MaxLen"], apart := false, laid := [("unicode/utf8.acceptRanges", laid_unicode_utf8_acceptRanges), ("unicode/utf8.first", laid_unicode_utf8_first)], narrowed := true }
def CursorBigGUptoSaid : Prop := cursorBigGUptoRow.holds Tryd.pinned (OpenSpec.upto cursorBigGSpec)

/-- 'beaconlaw10.CursorD', WHERE WHAT IT READS IS OF BULK AT MOST 1048576: true; the input reads as it did. -/
def cursorDUptoRow : OpenClaim := { program := "ytbjckahaalbpaaadoor", sum := "8ba54d9d85835917ea76980fc6dc7a6138b0be377a0c90a17bb1bc9847fac955", func := "beacon/beaconlaw10.CursorD", spec := "cursorD", inPlace := ["internal/bytealg.IndexByteString", "internal/bytealg.IndexString"], unfollowed := true, recurses := true, named := ["unicode/utf8.first", "unicode/utf8.acceptRanges", "internal/bytealg.MaxLen"], apart := false, laid := [("unicode/utf8.acceptRanges", laid_unicode_utf8_acceptRanges), ("unicode/utf8.first", laid_unicode_utf8_first)], narrowed := true }
def CursorDUptoSaid : Prop := cursorDUptoRow.holds Tryd.pinned (OpenSpec.upto cursorDSpec)

/-- 'beaconlaw10.CursorBigH', WHERE WHAT IT READS IS OF BULK AT MOST 1048576: true; the input reads as it did. -/
def cursorBigHUptoRow : OpenClaim := { program := "ytbjckahaalbpaaadoor", sum := "8ba54d9d85835917ea76980fc6dc7a6138b0be377a0c90a17bb1bc9847fac955", func := "beacon/beaconlaw10.CursorBigH", spec := "cursorBigH", inPlace := ["internal/bytealg.IndexByteString", "internal/bytealg.IndexString"], unfollowed := true, recurses := true, named := ["unicode/utf8.first", "unicode/utf8.acceptRanges", "internal/bytealg.MaxLen"], apart := false, laid := [("unicode/utf8.acceptRanges", laid_unicode_utf8_acceptRanges), ("unicode/utf8.first", laid_unicode_utf8_first)], narrowed := true }
def CursorBigHUptoSaid : Prop := cursorBigHUptoRow.holds Tryd.pinned (OpenSpec.upto cursorBigHSpec)

/-- 'beaconlaw10.CursorBigI', WHERE WHAT IT READS IS OF BULK AT MOST 1048576: true; the input reads as it did. -/
def cursorBigIUptoRow : OpenClaim := { program := "ytbjckahaalbpaaadoor", sum := "8ba54d9d85835917ea76980fc6dc7a6138b0be377a0c90a17bb1bc9847fac955", func := "beacon/beaconlaw10.CursorBigI", spec := "cursorBigI", inPlace := ["internal/bytealg.IndexByteString", "internal/bytealg.IndexString"], unfollowed := true, recurses := true, named := ["unicode/utf8.first", "unicode/utf8.acceptRanges", "internal/bytealg.MaxLen"], apart := false, laid := [("unicode/utf8.acceptRanges", laid_unicode_utf8_acceptRanges), ("unicode/utf8.first", laid_unicode_utf8_first)], narrowed := true }
def CursorBigIUptoSaid : Prop := cursorBigIUptoRow.holds Tryd.pinned (OpenSpec.upto cursorBigISpec)

/-- 'beaconlaw10.CursorBigZ', WHERE WHAT IT READS IS OF BULK AT MOST 1048576: true; the input reads as it did. -/
def cursorBigZUptoRow : OpenClaim := { program := "ytbjckahaalbpaaadoor", sum := "8ba54d9d85835917ea76980fc6dc7a6138b0be377a0c90a17bb1bc9847fac955", func := "beacon/beaconlaw10.CursorBigZ", spec := "cursorBigZ", inPlace := ["internal/bytealg.IndexByteString", "internal/bytealg.IndexString"], unfollowed := true, recurses := true, named := ["unicode/utf8.first", "unicode/utf8.acceptRanges", "internal/bytealg.MaxLen"], apart := false, laid := [("unicode/utf8.acceptRanges", laid_unicode_utf8_acceptRanges), ("unicode/utf8.first", laid_unicode_utf8_first)], narrowed := true }
def CursorBigZUptoSaid : Prop := cursorBigZUptoRow.holds Tryd.pinned (OpenSpec.upto cursorBigZSpec)

/-- 'beaconlaw10.CursorWithin', WHERE WHAT IT READS IS OF BULK AT MOST 1048576: true; the input reads as it did. -/
def cursorWithinUptoRow : OpenClaim := { program := "ytbjckahaalbpaaadoor", sum := "8ba54d9d85835917ea76980fc6dc7a6138b0be377a0c90a17bb1bc9847fac955", func := "beacon/beaconlaw10.CursorWithin", spec := "cursorWithin", inPlace := ["internal/bytealg.IndexByteString", "internal/bytealg.IndexString"], unfollowed := true, recurses := true, named := ["unicode/utf8.first", "unicode/utf8.acceptRanges", "internal/bytealg.MaxLen"], apart := false, laid := [("unicode/utf8.acceptRanges", laid_unicode_utf8_acceptRanges), ("unicode/utf8.first", laid_unicode_utf8_first)], narrowed := true }
def CursorWithinUptoSaid : Prop := cursorWithinUptoRow.holds Tryd.pinned (OpenSpec.upto cursorWithinSpec)

/-- 'beaconlaw10.CursorKeeps', WHERE WHAT IT READS IS OF BULK AT MOST 1048576: true; the input reads as it did. -/
def cursorKeepsUptoRow : OpenClaim := { program := "ytbjckahaalbpaaadoor", sum := "8ba54d9d85835917ea76980fc6dc7a6138b0be377a0c90a17bb1bc9847fac955", func := "beacon/beaconlaw10.CursorKeeps", spec := "cursorKeeps", inPlace := ["internal/bytealg.IndexByteString", "internal/bytealg.IndexString"], unfollowed := true, recurses := true, named := ["unicode/utf8.first", "unicode/utf8.acceptRanges", "internal/bytealg.MaxLen"], apart := false, laid := [("unicode/utf8.acceptRanges", laid_unicode_utf8_acceptRanges), ("unicode/utf8.first", laid_unicode_utf8_first)], narrowed := true }
def CursorKeepsUptoSaid : Prop := cursorKeepsUptoRow.holds Tryd.pinned (OpenSpec.upto cursorKeepsSpec)

end Rows
end Go.Proofs.YtbjckahaalbpaaaDoor
