/-
  NARROWER THAN 'FOR EVERY INPUT', by the rows' own cells (each row's printed sentence says how): NameShort: laid · DoqAccepts: laid · MsgPut: laid · MsgRecords: laid · MsgGet: laid · MsgBack: laid · MsgSections: laid · MsgShort: laid.
  DERIVED. THE GIVEN ROWS OF THIS SEAT. 8 by the template 'for every input the law returns true; each argument reads behind the call as it read before'; 0 by the template 'total and deterministic' (their statements: YtkhlmpkodjoioaaDoorTotals.lean).
  GIVEN WITH THE SEED: the statements are not yours to turn. If you find one false, say at which input.
  Laid BY PROGRAM, IN A SANDBOX (cutbox-rows.mjs): the forced cells as the released guide's own fill.sh prints them over the translation 36893412e390c9a8… (all of the seat's roots in one cut). By AI agents, Wed Nov 11 2026. No macro, syntax, notation, axiom, sorry.
-/
import Derived.Test.YtkhlmpkodjoioaaDoorChecked
import GoSem.PinnedTables
import GoSem.Claim
import GoSem.ClaimJoined
import GoSem.ClaimMapViews
import Derived.JoinedTies
import Derived.KernelRfl
namespace Go.Proofs.YtkhlmpkodjoioaaDoor
/- THE CELL 'sum', in the pinned program and in every row, IS THE sha256 OF THE DUMP (.gsa) THAT YtkhlmpkodjoioaaDoorProg.lean LOADS. Nothing in Lean hashes anything: it is a label: what it is worth is what the hold of that sum in a sandbox is worth. -/
noncomputable def Tryd.pinned : Pinned := { name := "ytkhlmpkodjoioaadoor", sum := "36893412e390c9a8daf652ce941ca7a1250c2d3914f48a6e2f9dc02b0976d2b2", checked := Tryd.checked }
namespace Rows
def none {H : Type} : Left H := { results := [], args := [] }

/- WHAT THE LISTED PACKAGE-LEVEL VARIABLES READ AS WHEN THE CALL BEGINS. Each datum BY PROGRAM (the guide's laid-datum.mjs) off the statement by which the dump's own 'gosem.cut.vars' lays the variable. In a bare row this is a premise. The card (YtkhlmpkodjoioaaDoorCards.lean) ties it to the program's text. -/
def laid_unicode_utf8_acceptRanges {H : Type} : DataW H := .agg [.agg [.lit (.int .u8 128), .lit (.int .u8 191)], .agg [.lit (.int .u8 160), .lit (.int .u8 191)], .agg [.lit (.int .u8 128), .lit (.int .u8 159)], .agg [.lit (.int .u8 144), .lit (.int .u8 191)], .agg [.lit (.int .u8 128), .lit (.int .u8 143)], .agg [.lit (.int .u8 0), .lit (.int .u8 0)], .agg [.lit (.int .u8 0), .lit (.int .u8 0)], .agg [.lit (.int .u8 0), .lit (.int .u8 0)], .agg [.lit (.int .u8 0), .lit (.int .u8 0)], .agg [.lit (.int .u8 0), .lit (.int .u8 0)], .agg [.lit (.int .u8 0), .lit (.int .u8 0)], .agg [.lit (.int .u8 0), .lit (.int .u8 0)], .agg [.lit (.int .u8 0), .lit (.int .u8 0)], .agg [.lit (.int .u8 0), .lit (.int .u8 0)], .agg [.lit (.int .u8 0), .lit (.int .u8 0)], .agg [.lit (.int .u8 0), .lit (.int .u8 0)]]
/-- One of Go's own tables, pinned by name: the form's constant. -/
def laid_unicode_utf8_first : DataW Unit := Go.Pinned.utf8First

/-- 'rhynelaw17.NameShort': WHATEVER THE INPUT: true; the input reads as it did. -/
def nameShortSpec : ChangeSpec := { name := "nameShort", fn := fun _ => fun
  | [d1, d2] => { results := [.lit (.bool true)], args := [d1, d2] }
  | _ => none }
def nameShortRow : OpenClaim := { program := "ytkhlmpkodjoioaadoor", sum := "36893412e390c9a8daf652ce941ca7a1250c2d3914f48a6e2f9dc02b0976d2b2", func := "rhyne/rhynelaw17.NameShort", spec := "nameShort", inPlace := ["internal/bytealg.CountString", "internal/bytealg.IndexByteString", "internal/bytealg.IndexString", "internal/abi.NoEscape", "internal/bytealg.MakeNoZero"], named := ["unicode/utf8.first", "unicode/utf8.acceptRanges", "internal/bytealg.MaxLen"], apart := false, laid := [("unicode/utf8.acceptRanges", laid_unicode_utf8_acceptRanges), ("unicode/utf8.first", laid_unicode_utf8_first)] }
def NameShortSaid : Prop := nameShortRow.holds Tryd.pinned (OpenSpec.ofChange nameShortSpec)

/-- ITS FALSE NEIGHBOUR: 'it returns false'. Refute it at one input. -/
def nameShortWrong : ChangeSpec := { name := "nameShort", fn := fun _ => fun
  | [d1, d2] => { results := [.lit (.bool false)], args := [d1, d2] }
  | _ => none }
def NameShortWrongFalsely : Prop := nameShortRow.holds Tryd.pinned (OpenSpec.ofChange nameShortWrong)

/-- 'rhynelaw23.DoqAccepts': WHATEVER THE INPUT: true; the input reads as it did. -/
def doqAcceptsSpec : ChangeSpec := { name := "doqAccepts", fn := fun _ => fun
  | [d1, d2] => { results := [.lit (.bool true)], args := [d1, d2] }
  | _ => none }
def doqAcceptsRow : OpenClaim := { program := "ytkhlmpkodjoioaadoor", sum := "36893412e390c9a8daf652ce941ca7a1250c2d3914f48a6e2f9dc02b0976d2b2", func := "rhyne/rhynelaw23.DoqAccepts", spec := "doqAccepts", inPlace := ["internal/bytealg.IndexByteString", "internal/bytealg.CountString", "internal/bytealg.IndexString"], named := ["unicode/utf8.first", "unicode/utf8.acceptRanges", "internal/bytealg.MaxLen"], apart := false, laid := [("unicode/utf8.acceptRanges", laid_unicode_utf8_acceptRanges), ("unicode/utf8.first", laid_unicode_utf8_first)] }
def DoqAcceptsSaid : Prop := doqAcceptsRow.holds Tryd.pinned (OpenSpec.ofChange doqAcceptsSpec)

/-- ITS FALSE NEIGHBOUR: 'it returns false'. Refute it at one input. -/
def doqAcceptsWrong : ChangeSpec := { name := "doqAccepts", fn := fun _ => fun
  | [d1, d2] => { results := [.lit (.bool false)], args := [d1, d2] }
  | _ => none }
def DoqAcceptsWrongFalsely : Prop := doqAcceptsRow.holds Tryd.pinned (OpenSpec.ofChange doqAcceptsWrong)

/-- 'rhynelaw18.MsgPut': WHATEVER THE INPUT: true; the input reads as it did. -/
def msgPutSpec : ChangeSpec := { name := "msgPut", fn := fun _ => fun
  | [d] => { results := [.lit (.bool true)], args := [d] }
  | _ => none }
def msgPutRow : OpenClaim := { program := "ytkhlmpkodjoioaadoor", sum := "36893412e390c9a8daf652ce941ca7a1250c2d3914f48a6e2f9dc02b0976d2b2", func := "rhyne/rhynelaw18.MsgPut", spec := "msgPut", inPlace := ["internal/bytealg.CountString", "internal/bytealg.IndexByteString", "internal/bytealg.IndexString", "internal/abi.NoEscape", "internal/bytealg.MakeNoZero"], unfollowed := true, recurses := true, named := ["unicode/utf8.first", "unicode/utf8.acceptRanges", "internal/bytealg.MaxLen"], apart := false, laid := [("unicode/utf8.acceptRanges", laid_unicode_utf8_acceptRanges), ("unicode/utf8.first", laid_unicode_utf8_first)] }
def MsgPutSaid : Prop := msgPutRow.holds Tryd.pinned (OpenSpec.ofChange msgPutSpec)

/-- ITS FALSE NEIGHBOUR: 'it returns false'. Refute it at one input. -/
def msgPutWrong : ChangeSpec := { name := "msgPut", fn := fun _ => fun
  | [d] => { results := [.lit (.bool false)], args := [d] }
  | _ => none }
def MsgPutWrongFalsely : Prop := msgPutRow.holds Tryd.pinned (OpenSpec.ofChange msgPutWrong)

/-- 'rhynelaw18.MsgRecords': WHATEVER THE INPUT: true; the input reads as it did. -/
def msgRecordsSpec : ChangeSpec := { name := "msgRecords", fn := fun _ => fun
  | [d] => { results := [.lit (.bool true)], args := [d] }
  | _ => none }
def msgRecordsRow : OpenClaim := { program := "ytkhlmpkodjoioaadoor", sum := "36893412e390c9a8daf652ce941ca7a1250c2d3914f48a6e2f9dc02b0976d2b2", func := "rhyne/rhynelaw18.MsgRecords", spec := "msgRecords", inPlace := ["internal/bytealg.CountString", "internal/bytealg.IndexByteString", "internal/bytealg.IndexString", "internal/abi.NoEscape", "internal/bytealg.MakeNoZero"], unfollowed := true, recurses := true, named := ["unicode/utf8.first", "unicode/utf8.acceptRanges", "internal/bytealg.MaxLen"], apart := false, laid := [("unicode/utf8.acceptRanges", laid_unicode_utf8_acceptRanges), ("unicode/utf8.first", laid_unicode_utf8_first)] }
def MsgRecordsSaid : Prop := msgRecordsRow.holds Tryd.pinned (OpenSpec.ofChange msgRecordsSpec)

/-- ITS FALSE NEIGHBOUR: 'it returns false'. Refute it at one input. -/
def msgRecordsWrong : ChangeSpec := { name := "msgRecords", fn := fun _ => fun
  | [d] => { results := [.lit (.bool false)], args := [d] }
  | _ => none }
def MsgRecordsWrongFalsely : Prop := msgRecordsRow.holds Tryd.pinned (OpenSpec.ofChange msgRecordsWrong)

/-- 'rhynelaw18.MsgGet': WHATEVER THE INPUT: true; the input reads as it did. -/
def msgGetSpec : ChangeSpec := { name := "msgGet", fn := fun _ => fun
  | [d] => { results := [.lit (.bool true)], args := [d] }
  | _ => none }
def msgGetRow : OpenClaim := { program := "ytkhlmpkodjoioaadoor", sum := "36893412e390c9a8daf652ce941ca7a1250c2d3914f48a6e2f9dc02b0976d2b2", func := "rhyne/rhynelaw18.MsgGet", spec := "msgGet", inPlace := ["internal/bytealg.CountString", "internal/bytealg.IndexByteString", "internal/bytealg.IndexString", "internal/abi.NoEscape", "internal/bytealg.MakeNoZero"], unfollowed := true, recurses := true, named := ["unicode/utf8.first", "unicode/utf8.acceptRanges", "internal/bytealg.MaxLen"], apart := false, laid := [("unicode/utf8.acceptRanges", laid_unicode_utf8_acceptRanges), ("unicode/utf8.first", laid_unicode_utf8_first)] }
def MsgGetSaid : Prop := msgGetRow.holds Tryd.pinned (OpenSpec.ofChange msgGetSpec)

/-- ITS FALSE NEIGHBOUR: 'it returns false'. Refute it at one input. -/
def msgGetWrong : ChangeSpec := { name := "msgGet", fn := fun _ => fun
  | [d] => { results := [.lit (.bool false)], args := [d] }
  | _ => none }
def MsgGetWrongFalsely : Prop := msgGetRow.holds Tryd.pinned (OpenSpec.ofChange msgGetWrong)

/-- 'rhynelaw18.MsgBack': WHATEVER THE INPUT: true; the input reads as it did. -/
def msgBackSpec : ChangeSpec := { name := "msgBack", fn := fun _ => fun
  | [d1, d2] => { results := [.lit (.bool true)], args := [d1, d2] }
  | _ => none }
def msgBackRow : OpenClaim := { program := "ytkhlmpkodjoioaadoor", sum := "36893412e390c9a8daf652ce941ca7a1250c2d3914f48a6e2f9dc02b0976d2b2", func := "rhyne/rhynelaw18.MsgBack", spec := "msgBack", inPlace := ["internal/bytealg.CountString", "internal/bytealg.IndexByteString", "internal/bytealg.IndexString", "internal/abi.NoEscape", "internal/bytealg.MakeNoZero"], unfollowed := true, recurses := true, named := ["unicode/utf8.first", "unicode/utf8.acceptRanges", "internal/bytealg.MaxLen"], apart := false, laid := [("unicode/utf8.acceptRanges", laid_unicode_utf8_acceptRanges), ("unicode/utf8.first", laid_unicode_utf8_first)] }
def MsgBackSaid : Prop := msgBackRow.holds Tryd.pinned (OpenSpec.ofChange msgBackSpec)

/-- ITS FALSE NEIGHBOUR: 'it returns false'. Refute it at one input. -/
def msgBackWrong : ChangeSpec := { name := "msgBack", fn := fun _ => fun
  | [d1, d2] => { results := [.lit (.bool false)], args := [d1, d2] }
  | _ => none }
def MsgBackWrongFalsely : Prop := msgBackRow.holds Tryd.pinned (OpenSpec.ofChange msgBackWrong)

/-- 'rhynelaw18.MsgSections': WHATEVER THE INPUT: true; the input reads as it did. -/
def msgSectionsSpec : ChangeSpec := { name := "msgSections", fn := fun _ => fun
  | [d] => { results := [.lit (.bool true)], args := [d] }
  | _ => none }
def msgSectionsRow : OpenClaim := { program := "ytkhlmpkodjoioaadoor", sum := "36893412e390c9a8daf652ce941ca7a1250c2d3914f48a6e2f9dc02b0976d2b2", func := "rhyne/rhynelaw18.MsgSections", spec := "msgSections", inPlace := ["internal/bytealg.CountString", "internal/bytealg.IndexByteString", "internal/bytealg.IndexString", "internal/abi.NoEscape", "internal/bytealg.MakeNoZero"], unfollowed := true, recurses := true, named := ["unicode/utf8.first", "unicode/utf8.acceptRanges", "internal/bytealg.MaxLen"], apart := false, laid := [("unicode/utf8.acceptRanges", laid_unicode_utf8_acceptRanges), ("unicode/utf8.first", laid_unicode_utf8_first)] }
def MsgSectionsSaid : Prop := msgSectionsRow.holds Tryd.pinned (OpenSpec.ofChange msgSectionsSpec)

/-- ITS FALSE NEIGHBOUR: 'it returns false'. Refute it at one input. -/
def msgSectionsWrong : ChangeSpec := { name := "msgSections", fn := fun _ => fun
  | [d] => { results := [.lit (.bool false)], args := [d] }
  | _ => none }
def MsgSectionsWrongFalsely : Prop := msgSectionsRow.holds Tryd.pinned (OpenSpec.ofChange msgSectionsWrong)

/-- 'rhynelaw18.MsgShort': WHATEVER THE INPUT: true; the input reads as it did. -/
def msgShortSpec : ChangeSpec := { name := "msgShort", fn := fun _ => fun
  | [d1, d2] => { results := [.lit (.bool true)], args := [d1, d2] }
  | _ => none }
def msgShortRow : OpenClaim := { program := "ytkhlmpkodjoioaadoor", sum := "36893412e390c9a8daf652ce941ca7a1250c2d3914f48a6e2f9dc02b0976d2b2", func := "rhyne/rhynelaw18.MsgShort", spec := "msgShort", inPlace := ["internal/bytealg.IndexByteString", "internal/bytealg.CountString", "internal/bytealg.IndexString", "internal/abi.NoEscape", "internal/bytealg.MakeNoZero"], unfollowed := true, recurses := true, named := ["unicode/utf8.first", "unicode/utf8.acceptRanges", "internal/bytealg.MaxLen"], apart := false, laid := [("unicode/utf8.acceptRanges", laid_unicode_utf8_acceptRanges), ("unicode/utf8.first", laid_unicode_utf8_first)] }
def MsgShortSaid : Prop := msgShortRow.holds Tryd.pinned (OpenSpec.ofChange msgShortSpec)

/-- ITS FALSE NEIGHBOUR: 'it returns false'. Refute it at one input. -/
def msgShortWrong : ChangeSpec := { name := "msgShort", fn := fun _ => fun
  | [d1, d2] => { results := [.lit (.bool false)], args := [d1, d2] }
  | _ => none }
def MsgShortWrongFalsely : Prop := msgShortRow.holds Tryd.pinned (OpenSpec.ofChange msgShortWrong)

/- THE SECOND FORM. 'bulk': how many values and letters a reading holds, each counted each time it is reached (what is shared counts as often as it is met; a slice's spare places count too). A statement '..UptoSaid' is the law's where the arguments, and the package variables that the reading takes, are together of bulk at most 1048576: NARROWER than '..Said'. Prove '..Said' where nothing that the law and all that it calls make is longer than what came in: it says more and counts as full. Else prove '..UptoSaid'. A law counts once. -/
mutual
def uptoBulk {H : Type} : DataW H → Nat
  | .lit (.string bytes) => bytes.length + 1
  | .lit _ => 1
  | .nil => 1
  | .ptr d => uptoBulk d + 1
  | .slice elems spare => uptoBulkAll elems + uptoBulkAll spare + 1
  | .agg parts => uptoBulkAll parts + 1
  | .iface _ d => uptoBulk d + 1
  | .map entries => uptoBulkEntries entries + 1
  | .held _ => 1
def uptoBulkAll {H : Type} : List (DataW H) → Nat
  | [] => 0
  | d :: r => uptoBulk d + uptoBulkAll r
def uptoBulkEntries {H : Type} : List (Lit × DataW H) → Nat
  | [] => 0
  | x :: r => uptoBulkEntry x + uptoBulkEntries r
def uptoBulkEntry {H : Type} : Lit × DataW H → Nat
  | (.string bytes, d) => bytes.length + uptoBulk d + 1
  | (_, d) => uptoBulk d + 1
 end
def uptoSmall : (H : Type) → List (DataW H) → Bool := fun _ ds => decide (uptoBulkAll ds ≤ 1048576)
def OpenSpec.upto (s : _root_.Go.ChangeSpec) : _root_.Go.OpenSpec := { _root_.Go.OpenSpec.ofChange s with cond := some uptoSmall }

/-- 'rhynelaw17.NameShort', WHERE WHAT IT READS IS OF BULK AT MOST 1048576: true; the input reads as it did. -/
def nameShortUptoRow : OpenClaim := { program := "ytkhlmpkodjoioaadoor", sum := "36893412e390c9a8daf652ce941ca7a1250c2d3914f48a6e2f9dc02b0976d2b2", func := "rhyne/rhynelaw17.NameShort", spec := "nameShort", inPlace := ["internal/bytealg.CountString", "internal/bytealg.IndexByteString", "internal/bytealg.IndexString", "internal/abi.NoEscape", "internal/bytealg.MakeNoZero"], named := ["unicode/utf8.first", "unicode/utf8.acceptRanges", "internal/bytealg.MaxLen"], apart := false, laid := [("unicode/utf8.acceptRanges", laid_unicode_utf8_acceptRanges), ("unicode/utf8.first", laid_unicode_utf8_first)], narrowed := true }
def NameShortUptoSaid : Prop := nameShortUptoRow.holds Tryd.pinned (OpenSpec.upto nameShortSpec)

/-- 'rhynelaw23.DoqAccepts', WHERE WHAT IT READS IS OF BULK AT MOST 1048576: true; the input reads as it did. -/
def doqAcceptsUptoRow : OpenClaim := { program := "ytkhlmpkodjoioaadoor", sum := "36893412e390c9a8daf652ce941ca7a1250c2d3914f48a6e2f9dc02b0976d2b2", func := "rhyne/rhynelaw23.DoqAccepts", spec := "doqAccepts", inPlace := ["internal/bytealg.IndexByteString", "internal/bytealg.CountString", "internal/bytealg.IndexString"], named := ["unicode/utf8.first", "unicode/utf8.acceptRanges", "internal/bytealg.MaxLen"], apart := false, laid := [("unicode/utf8.acceptRanges", laid_unicode_utf8_acceptRanges), ("unicode/utf8.first", laid_unicode_utf8_first)], narrowed := true }
def DoqAcceptsUptoSaid : Prop := doqAcceptsUptoRow.holds Tryd.pinned (OpenSpec.upto doqAcceptsSpec)

/-- 'rhynelaw18.MsgPut', WHERE WHAT IT READS IS OF BULK AT MOST 1048576: true; the input reads as it did. -/
def msgPutUptoRow : OpenClaim := { program := "ytkhlmpkodjoioaadoor", sum := "36893412e390c9a8daf652ce941ca7a1250c2d3914f48a6e2f9dc02b0976d2b2", func := "rhyne/rhynelaw18.MsgPut", spec := "msgPut", inPlace := ["internal/bytealg.CountString", "internal/bytealg.IndexByteString", "internal/bytealg.IndexString", "internal/abi.NoEscape", "internal/bytealg.MakeNoZero"], unfollowed := true, recurses := true, named := ["unicode/utf8.first", "unicode/utf8.acceptRanges", "internal/bytealg.MaxLen"], apart := false, laid := [("unicode/utf8.acceptRanges", laid_unicode_utf8_acceptRanges), ("unicode/utf8.first", laid_unicode_utf8_first)], narrowed := true }
def MsgPutUptoSaid : Prop := msgPutUptoRow.holds Tryd.pinned (OpenSpec.upto msgPutSpec)

/-- 'rhynelaw18.MsgRecords', WHERE WHAT IT READS IS OF BULK AT MOST 1048576: true; the input reads as it did. -/
def msgRecordsUptoRow : OpenClaim := { program := "ytkhlmpkodjoioaadoor", sum := "36893412e390c9a8daf652ce941ca7a1250c2d3914f48a6e2f9dc02b0976d2b2", func := "rhyne/rhynelaw18.MsgRecords", spec := "msgRecords", inPlace := ["internal/bytealg.CountString", "internal/bytealg.IndexByteString", "internal/bytealg.IndexString", "internal/abi.NoEscape", "internal/bytealg.MakeNoZero"], unfollowed := true, recurses := true, named := ["unicode/utf8.first", "unicode/utf8.acceptRanges", "internal/bytealg.MaxLen"], apart := false, laid := [("unicode/utf8.acceptRanges", laid_unicode_utf8_acceptRanges), ("unicode/utf8.first", laid_unicode_utf8_first)], narrowed := true }
def MsgRecordsUptoSaid : Prop := msgRecordsUptoRow.holds Tryd.pinned (OpenSpec.upto msgRecordsSpec)

/-- 'rhynelaw18.MsgGet', WHERE WHAT IT READS IS OF BULK AT MOST 1048576: true; the input reads as it did. -/
def msgGetUptoRow : OpenClaim := { program := "ytkhlmpkodjoioaadoor", sum := "36893412e390c9a8daf652ce941ca7a1250c2d3914f48a6e2f9dc02b0976d2b2", func := "rhyne/rhynelaw18.MsgGet", spec := "msgGet", inPlace := ["internal/bytealg.CountString", "internal/bytealg.IndexByteString", "internal/bytealg.IndexString", "internal/abi.NoEscape", "internal/bytealg.MakeNoZero"], unfollowed := true, recurses := true, named := ["unicode/utf8.first", "unicode/utf8.acceptRanges", "internal/bytealg.MaxLen"], apart := false, laid := [("unicode/utf8.acceptRanges", laid_unicode_utf8_acceptRanges), ("unicode/utf8.first", laid_unicode_utf8_first)], narrowed := true }
def MsgGetUptoSaid : Prop := msgGetUptoRow.holds Tryd.pinned (OpenSpec.upto msgGetSpec)

/-- 'rhynelaw18.MsgBack', WHERE WHAT IT READS IS OF BULK AT MOST 1048576: true; the input reads as it did. -/
def msgBackUptoRow : OpenClaim := { program := "ytkhlmpkodjoioaadoor", sum := "36893412e390c9a8daf652ce941ca7a1250c2d3914f48a6e2f9dc02b0976d2b2", func := "rhyne/rhynelaw18.MsgBack", spec := "msgBack", inPlace := ["internal/bytealg.CountString", "internal/bytealg.IndexByteString", "internal/bytealg.IndexString", "internal/abi.NoEscape", "internal/bytealg.MakeNoZero"], unfollowed := true, recurses := true, named := ["unicode/utf8.first", "unicode/utf8.acceptRanges", "internal/bytealg.MaxLen"], apart := false, laid := [("unicode/utf8.acceptRanges", laid_unicode_utf8_acceptRanges), ("unicode/utf8.first", laid_unicode_utf8_first)], narrowed := true }
def MsgBackUptoSaid : Prop := msgBackUptoRow.holds Tryd.pinned (OpenSpec.upto msgBackSpec)

/-- 'rhynelaw18.MsgSections', WHERE WHAT IT READS IS OF BULK AT MOST 1048576: true; the input reads as it did. -/
def msgSectionsUptoRow : OpenClaim := { program := "ytkhlmpkodjoioaadoor", sum := "36893412e390c9a8daf652ce941ca7a1250c2d3914f48a6e2f9dc02b0976d2b2", func := "rhyne/rhynelaw18.MsgSections", spec := "msgSections", inPlace := ["internal/bytealg.CountString", "internal/bytealg.IndexByteString", "internal/bytealg.IndexString", "internal/abi.NoEscape", "internal/bytealg.MakeNoZero"], unfollowed := true, recurses := true, named := ["unicode/utf8.first", "unicode/utf8.acceptRanges", "internal/bytealg.MaxLen"], apart := false, laid := [("unicode/utf8.acceptRanges", laid_unicode_utf8_acceptRanges), ("unicode/utf8.first", laid_unicode_utf8_first)], narrowed := true }
def MsgSectionsUptoSaid : Prop := msgSectionsUptoRow.holds Tryd.pinned (OpenSpec.upto msgSectionsSpec)

/-- 'rhynelaw18.MsgShort', WHERE WHAT IT READS IS OF BULK AT MOST 1048576: true; the input reads as it did. -/
def msgShortUptoRow : OpenClaim := { program := "ytkhlmpkodjoioaadoor", sum := "36893412e390c9a8daf652ce941ca7a1250c2d3914f48a6e2f9dc02b0976d2b2", func := "rhyne/rhynelaw18.MsgShort", spec := "msgShort", inPlace := ["internal/bytealg.IndexByteString", "internal/bytealg.CountString", "internal/bytealg.IndexString", "internal/abi.NoEscape", "internal/bytealg.MakeNoZero"], unfollowed := true, recurses := true, named := ["unicode/utf8.first", "unicode/utf8.acceptRanges", "internal/bytealg.MaxLen"], apart := false, laid := [("unicode/utf8.acceptRanges", laid_unicode_utf8_acceptRanges), ("unicode/utf8.first", laid_unicode_utf8_first)], narrowed := true }
def MsgShortUptoSaid : Prop := msgShortUptoRow.holds Tryd.pinned (OpenSpec.upto msgShortSpec)

end Rows
end Go.Proofs.YtkhlmpkodjoioaaDoor
