/-
  DERIVED. GIVEN WITH THE SEED: THE CARDS: each row of YtkhlmpkodjoioaaDoorRows.lean that lists a variable, with what it lists TIED to the program's text (the seventh form; the later family's looks); each row that meets fmt, with fmt's text TOLD by the authors' own Lean function (tested against real Go, not proved from fmt's source: count such statements apart). THE CARD IS WHAT COUNTS. Prove the row's statement (the work); the ties are given (YtkhlmpkodjoioaaDoorTie.lean); close each card by the builder's one call (the guide's Derived/Test/ToyasCard.lean, 'card_holds'). Laid BY PROGRAM, IN A SANDBOX (cutbox-door.mjs). By AI agents, Wed Nov 11 2026. No macro, syntax, notation, axiom, sorry.
-/
import Derived.Test.YtkhlmpkodjoioaaDoorRows
import GoSem.ClaimSeven
namespace Go.Proofs.YtkhlmpkodjoioaaDoor
namespace Rows

/-- THE TIED CARD OF 'rhynelaw17.NameShort'. -/
def nameShortCard : Claim7 := { stood := { row := nameShortRow, standIns := [], harness := (true, "7c90bab3b41b02c56b0d1d9b105c9447a0b626d642d991dbba76ac025a9b52df"), looks := false }, kinds := [], alts := [], laidByText := true, laidKinds := [.data, .pinned], laidTests := true, laidLooks := .later }
def NameShortCardSaid : Prop := Claim7.holds Tryd.pinned (.plain (OpenSpec.ofChange nameShortSpec)) nameShortCard

/-- THE TIED CARD OF 'rhynelaw23.DoqAccepts'. -/
def doqAcceptsCard : Claim7 := { stood := { row := doqAcceptsRow, standIns := [], harness := (true, "7c90bab3b41b02c56b0d1d9b105c9447a0b626d642d991dbba76ac025a9b52df"), looks := false }, kinds := [], alts := [], laidByText := true, laidKinds := [.data, .pinned], laidTests := true, laidLooks := .later }
def DoqAcceptsCardSaid : Prop := Claim7.holds Tryd.pinned (.plain (OpenSpec.ofChange doqAcceptsSpec)) doqAcceptsCard

/-- THE TIED CARD OF 'rhynelaw18.MsgPut'. -/
def msgPutCard : Claim7 := { stood := { row := msgPutRow, standIns := [], harness := (true, "7c90bab3b41b02c56b0d1d9b105c9447a0b626d642d991dbba76ac025a9b52df"), looks := false }, kinds := [], alts := [], laidByText := true, laidKinds := [.data, .pinned], laidTests := true, laidLooks := .later }
def MsgPutCardSaid : Prop := Claim7.holds Tryd.pinned (.plain (OpenSpec.ofChange msgPutSpec)) msgPutCard

/-- THE TIED CARD OF 'rhynelaw18.MsgRecords'. -/
def msgRecordsCard : Claim7 := { stood := { row := msgRecordsRow, standIns := [], harness := (true, "7c90bab3b41b02c56b0d1d9b105c9447a0b626d642d991dbba76ac025a9b52df"), looks := false }, kinds := [], alts := [], laidByText := true, laidKinds := [.data, .pinned], laidTests := true, laidLooks := .later }
def MsgRecordsCardSaid : Prop := Claim7.holds Tryd.pinned (.plain (OpenSpec.ofChange msgRecordsSpec)) msgRecordsCard

/-- THE TIED CARD OF 'rhynelaw18.MsgGet'. -/
def msgGetCard : Claim7 := { stood := { row := msgGetRow, standIns := [], harness := (true, "7c90bab3b41b02c56b0d1d9b105c9447a0b626d642d991dbba76ac025a9b52df"), looks := false }, kinds := [], alts := [], laidByText := true, laidKinds := [.data, .pinned], laidTests := true, laidLooks := .later }
def MsgGetCardSaid : Prop := Claim7.holds Tryd.pinned (.plain (OpenSpec.ofChange msgGetSpec)) msgGetCard

/-- THE TIED CARD OF 'rhynelaw18.MsgBack'. -/
def msgBackCard : Claim7 := { stood := { row := msgBackRow, standIns := [], harness := (true, "7c90bab3b41b02c56b0d1d9b105c9447a0b626d642d991dbba76ac025a9b52df"), looks := false }, kinds := [], alts := [], laidByText := true, laidKinds := [.data, .pinned], laidTests := true, laidLooks := .later }
def MsgBackCardSaid : Prop := Claim7.holds Tryd.pinned (.plain (OpenSpec.ofChange msgBackSpec)) msgBackCard

/-- THE TIED CARD OF 'rhynelaw18.MsgSections'. -/
def msgSectionsCard : Claim7 := { stood := { row := msgSectionsRow, standIns := [], harness := (true, "7c90bab3b41b02c56b0d1d9b105c9447a0b626d642d991dbba76ac025a9b52df"), looks := false }, kinds := [], alts := [], laidByText := true, laidKinds := [.data, .pinned], laidTests := true, laidLooks := .later }
def MsgSectionsCardSaid : Prop := Claim7.holds Tryd.pinned (.plain (OpenSpec.ofChange msgSectionsSpec)) msgSectionsCard

/-- THE TIED CARD OF 'rhynelaw18.MsgShort'. -/
def msgShortCard : Claim7 := { stood := { row := msgShortRow, standIns := [], harness := (true, "7c90bab3b41b02c56b0d1d9b105c9447a0b626d642d991dbba76ac025a9b52df"), looks := false }, kinds := [], alts := [], laidByText := true, laidKinds := [.data, .pinned], laidTests := true, laidLooks := .later }
def MsgShortCardSaid : Prop := Claim7.holds Tryd.pinned (.plain (OpenSpec.ofChange msgShortSpec)) msgShortCard

/-- THE SECOND FORM's CARD OF 'rhynelaw17.NameShort'. -/
def nameShortUptoCard : Claim7 := { stood := { row := nameShortUptoRow, standIns := [], harness := (true, "7c90bab3b41b02c56b0d1d9b105c9447a0b626d642d991dbba76ac025a9b52df"), looks := false }, kinds := [], alts := [], laidByText := true, laidKinds := [.data, .pinned], laidTests := true, laidLooks := .later }
def NameShortUptoCardSaid : Prop := Claim7.holds Tryd.pinned (.plain (OpenSpec.upto nameShortSpec)) nameShortUptoCard

/-- THE SECOND FORM's CARD OF 'rhynelaw23.DoqAccepts'. -/
def doqAcceptsUptoCard : Claim7 := { stood := { row := doqAcceptsUptoRow, standIns := [], harness := (true, "7c90bab3b41b02c56b0d1d9b105c9447a0b626d642d991dbba76ac025a9b52df"), looks := false }, kinds := [], alts := [], laidByText := true, laidKinds := [.data, .pinned], laidTests := true, laidLooks := .later }
def DoqAcceptsUptoCardSaid : Prop := Claim7.holds Tryd.pinned (.plain (OpenSpec.upto doqAcceptsSpec)) doqAcceptsUptoCard

/-- THE SECOND FORM's CARD OF 'rhynelaw18.MsgPut'. -/
def msgPutUptoCard : Claim7 := { stood := { row := msgPutUptoRow, standIns := [], harness := (true, "7c90bab3b41b02c56b0d1d9b105c9447a0b626d642d991dbba76ac025a9b52df"), looks := false }, kinds := [], alts := [], laidByText := true, laidKinds := [.data, .pinned], laidTests := true, laidLooks := .later }
def MsgPutUptoCardSaid : Prop := Claim7.holds Tryd.pinned (.plain (OpenSpec.upto msgPutSpec)) msgPutUptoCard

/-- THE SECOND FORM's CARD OF 'rhynelaw18.MsgRecords'. -/
def msgRecordsUptoCard : Claim7 := { stood := { row := msgRecordsUptoRow, standIns := [], harness := (true, "7c90bab3b41b02c56b0d1d9b105c9447a0b626d642d991dbba76ac025a9b52df"), looks := false }, kinds := [], alts := [], laidByText := true, laidKinds := [.data, .pinned], laidTests := true, laidLooks := .later }
def MsgRecordsUptoCardSaid : Prop := Claim7.holds Tryd.pinned (.plain (OpenSpec.upto msgRecordsSpec)) msgRecordsUptoCard

/-- THE SECOND FORM's CARD OF 'rhynelaw18.MsgGet'. -/
def msgGetUptoCard : Claim7 := { stood := { row := msgGetUptoRow, standIns := [], harness := (true, "7c90bab3b41b02c56b0d1d9b105c9447a0b626d642d991dbba76ac025a9b52df"), looks := false }, kinds := [], alts := [], laidByText := true, laidKinds := [.data, .pinned], laidTests := true, laidLooks := .later }
def MsgGetUptoCardSaid : Prop := Claim7.holds Tryd.pinned (.plain (OpenSpec.upto msgGetSpec)) msgGetUptoCard

/-- THE SECOND FORM's CARD OF 'rhynelaw18.MsgBack'. -/
def msgBackUptoCard : Claim7 := { stood := { row := msgBackUptoRow, standIns := [], harness := (true, "7c90bab3b41b02c56b0d1d9b105c9447a0b626d642d991dbba76ac025a9b52df"), looks := false }, kinds := [], alts := [], laidByText := true, laidKinds := [.data, .pinned], laidTests := true, laidLooks := .later }
def MsgBackUptoCardSaid : Prop := Claim7.holds Tryd.pinned (.plain (OpenSpec.upto msgBackSpec)) msgBackUptoCard

/-- THE SECOND FORM's CARD OF 'rhynelaw18.MsgSections'. -/
def msgSectionsUptoCard : Claim7 := { stood := { row := msgSectionsUptoRow, standIns := [], harness := (true, "7c90bab3b41b02c56b0d1d9b105c9447a0b626d642d991dbba76ac025a9b52df"), looks := false }, kinds := [], alts := [], laidByText := true, laidKinds := [.data, .pinned], laidTests := true, laidLooks := .later }
def MsgSectionsUptoCardSaid : Prop := Claim7.holds Tryd.pinned (.plain (OpenSpec.upto msgSectionsSpec)) msgSectionsUptoCard

/-- THE SECOND FORM's CARD OF 'rhynelaw18.MsgShort'. -/
def msgShortUptoCard : Claim7 := { stood := { row := msgShortUptoRow, standIns := [], harness := (true, "7c90bab3b41b02c56b0d1d9b105c9447a0b626d642d991dbba76ac025a9b52df"), looks := false }, kinds := [], alts := [], laidByText := true, laidKinds := [.data, .pinned], laidTests := true, laidLooks := .later }
def MsgShortUptoCardSaid : Prop := Claim7.holds Tryd.pinned (.plain (OpenSpec.upto msgShortSpec)) msgShortUptoCard
end Rows
end Go.Proofs.YtkhlmpkodjoioaaDoor
