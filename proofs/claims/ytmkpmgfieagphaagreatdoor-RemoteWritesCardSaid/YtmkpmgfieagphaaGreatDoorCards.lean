/-
  DERIVED. GIVEN WITH THE SEED: THE CARDS: each row of YtmkpmgfieagphaaGreatDoorRows.lean that lists a variable, with what it lists TIED to the program's text (the seventh form; the later family's looks); each row that meets fmt, with fmt's text TOLD by the authors' own Lean function (tested against real Go, not proved from fmt's source: count such statements apart). THE CARD IS WHAT COUNTS. Prove the row's statement (the work); the ties are given (YtmkpmgfieagphaaGreatDoorTie.lean); close each card by the builder's one call (the guide's Derived/Test/ToyasCard.lean, 'card_holds'). Laid BY PROGRAM, IN A SANDBOX (cutbox-door.mjs). By AI agents, Wed Nov 11 2026. No macro, syntax, notation, axiom, sorry.
-/
import Derived.Test.YtmkpmgfieagphaaGreatDoorRows
import GoSem.ClaimSeven
namespace Go.Proofs.YtmkpmgfieagphaaGreatDoor
namespace Rows

/-- THE TIED CARD OF 'homehublaw58.ScriptPrints'. -/
def scriptPrintsCard : Claim7 := { stood := { row := scriptPrintsRow, standIns := [], harness := (true, "dc999d89185705428c5669d199ba14a837be99a9d4a57d504c6aad46080d6c14"), looks := true }, kinds := [], alts := [], laidByText := true, laidKinds := [.data, .data, .data], laidTests := true, laidLooks := .later }
def ScriptPrintsCardSaid : Prop := Claim7.holds Tryz.pinned (.plain (OpenSpec.ofChange scriptPrintsSpec)) scriptPrintsCard

/-- THE TIED CARD OF 'homehublaw58.ScriptParses'. -/
def scriptParsesCard : Claim7 := { stood := { row := scriptParsesRow, standIns := [], harness := (true, "dc999d89185705428c5669d199ba14a837be99a9d4a57d504c6aad46080d6c14"), looks := true }, kinds := [], alts := [], laidByText := true, laidKinds := [.data, .data, .data], laidTests := true, laidLooks := .later }
def ScriptParsesCardSaid : Prop := Claim7.holds Tryz.pinned (.plain (OpenSpec.ofChange scriptParsesSpec)) scriptParsesCard

/-- THE TIED CARD OF 'homehublaw58.ScriptTexts'. -/
def scriptTextsCard : Claim7 := { stood := { row := scriptTextsRow, standIns := [], harness := (true, "dc999d89185705428c5669d199ba14a837be99a9d4a57d504c6aad46080d6c14"), looks := true }, kinds := [], alts := [], laidByText := true, laidKinds := [.data, .data, .data], laidTests := true, laidLooks := .later }
def ScriptTextsCardSaid : Prop := Claim7.holds Tryz.pinned (.plain (OpenSpec.ofChange scriptTextsSpec)) scriptTextsCard

/-- THE TIED CARD OF 'homehublaw49.RemoteChecks'. -/
def remoteChecksCard : Claim7 := { stood := { row := remoteChecksRow, standIns := [], harness := (true, "dc999d89185705428c5669d199ba14a837be99a9d4a57d504c6aad46080d6c14"), looks := true }, kinds := [], alts := [], laidByText := true, laidKinds := [.data], laidTests := true, laidLooks := .later }
def RemoteChecksCardSaid : Prop := Claim7.holds Tryz.pinned (.plain (OpenSpec.ofChange remoteChecksSpec)) remoteChecksCard

/-- THE TIED CARD OF 'homehublaw49.RemoteBytes'. -/
def remoteBytesCard : Claim7 := { stood := { row := remoteBytesRow, standIns := [], harness := (true, "dc999d89185705428c5669d199ba14a837be99a9d4a57d504c6aad46080d6c14"), looks := true }, kinds := [], alts := [], laidByText := true, laidKinds := [.data], laidTests := true, laidLooks := .later }
def RemoteBytesCardSaid : Prop := Claim7.holds Tryz.pinned (.plain (OpenSpec.ofChange remoteBytesSpec)) remoteBytesCard

/-- THE TIED CARD OF 'homehublaw49.RemoteAdmits'. -/
def remoteAdmitsCard : Claim7 := { stood := { row := remoteAdmitsRow, standIns := [], harness := (true, "dc999d89185705428c5669d199ba14a837be99a9d4a57d504c6aad46080d6c14"), looks := true }, kinds := [], alts := [], laidByText := true, laidKinds := [.data], laidTests := true, laidLooks := .later }
def RemoteAdmitsCardSaid : Prop := Claim7.holds Tryz.pinned (.plain (OpenSpec.ofChange remoteAdmitsSpec)) remoteAdmitsCard

/-- THE TIED CARD OF 'homehublaw49.RemoteBack'. -/
def remoteBackCard : Claim7 := { stood := { row := remoteBackRow, standIns := [], harness := (true, "dc999d89185705428c5669d199ba14a837be99a9d4a57d504c6aad46080d6c14"), looks := true }, kinds := [], alts := [], laidByText := true, laidKinds := [.data], laidTests := true, laidLooks := .later }
def RemoteBackCardSaid : Prop := Claim7.holds Tryz.pinned (.plain (OpenSpec.ofChange remoteBackSpec)) remoteBackCard

/-- THE TIED CARD OF 'homehublaw49.RemoteOnce'. -/
def remoteOnceCard : Claim7 := { stood := { row := remoteOnceRow, standIns := [], harness := (true, "dc999d89185705428c5669d199ba14a837be99a9d4a57d504c6aad46080d6c14"), looks := true }, kinds := [], alts := [], laidByText := true, laidKinds := [.data], laidTests := true, laidLooks := .later }
def RemoteOnceCardSaid : Prop := Claim7.holds Tryz.pinned (.plain (OpenSpec.ofChange remoteOnceSpec)) remoteOnceCard

/-- THE TIED CARD OF 'homehublaw49.RemoteOthers'. -/
def remoteOthersCard : Claim7 := { stood := { row := remoteOthersRow, standIns := [], harness := (true, "dc999d89185705428c5669d199ba14a837be99a9d4a57d504c6aad46080d6c14"), looks := true }, kinds := [], alts := [], laidByText := true, laidKinds := [.data], laidTests := true, laidLooks := .later }
def RemoteOthersCardSaid : Prop := Claim7.holds Tryz.pinned (.plain (OpenSpec.ofChange remoteOthersSpec)) remoteOthersCard

/-- THE TIED CARD OF 'homehublaw49.RemoteWrites'. -/
def remoteWritesCard : Claim7 := { stood := { row := remoteWritesRow, standIns := [], harness := (true, "dc999d89185705428c5669d199ba14a837be99a9d4a57d504c6aad46080d6c14"), looks := true }, kinds := [], alts := [], laidByText := true, laidKinds := [.data], laidTests := true, laidLooks := .later }
def RemoteWritesCardSaid : Prop := Claim7.holds Tryz.pinned (.plain (OpenSpec.ofChange remoteWritesSpec)) remoteWritesCard

/-- THE SECOND FORM's CARD OF 'homehublaw58.ScriptPrints'. -/
def scriptPrintsUptoCard : Claim7 := { stood := { row := scriptPrintsUptoRow, standIns := [], harness := (true, "dc999d89185705428c5669d199ba14a837be99a9d4a57d504c6aad46080d6c14"), looks := true }, kinds := [], alts := [], laidByText := true, laidKinds := [.data, .data, .data], laidTests := true, laidLooks := .later }
def ScriptPrintsUptoCardSaid : Prop := Claim7.holds Tryz.pinned (.plain (OpenSpec.upto scriptPrintsSpec)) scriptPrintsUptoCard

/-- THE SECOND FORM's CARD OF 'homehublaw58.ScriptParses'. -/
def scriptParsesUptoCard : Claim7 := { stood := { row := scriptParsesUptoRow, standIns := [], harness := (true, "dc999d89185705428c5669d199ba14a837be99a9d4a57d504c6aad46080d6c14"), looks := true }, kinds := [], alts := [], laidByText := true, laidKinds := [.data, .data, .data], laidTests := true, laidLooks := .later }
def ScriptParsesUptoCardSaid : Prop := Claim7.holds Tryz.pinned (.plain (OpenSpec.upto scriptParsesSpec)) scriptParsesUptoCard

/-- THE SECOND FORM's CARD OF 'homehublaw58.ScriptTexts'. -/
def scriptTextsUptoCard : Claim7 := { stood := { row := scriptTextsUptoRow, standIns := [], harness := (true, "dc999d89185705428c5669d199ba14a837be99a9d4a57d504c6aad46080d6c14"), looks := true }, kinds := [], alts := [], laidByText := true, laidKinds := [.data, .data, .data], laidTests := true, laidLooks := .later }
def ScriptTextsUptoCardSaid : Prop := Claim7.holds Tryz.pinned (.plain (OpenSpec.upto scriptTextsSpec)) scriptTextsUptoCard

/-- THE SECOND FORM's CARD OF 'homehublaw49.RemoteChecks'. -/
def remoteChecksUptoCard : Claim7 := { stood := { row := remoteChecksUptoRow, standIns := [], harness := (true, "dc999d89185705428c5669d199ba14a837be99a9d4a57d504c6aad46080d6c14"), looks := true }, kinds := [], alts := [], laidByText := true, laidKinds := [.data], laidTests := true, laidLooks := .later }
def RemoteChecksUptoCardSaid : Prop := Claim7.holds Tryz.pinned (.plain (OpenSpec.upto remoteChecksSpec)) remoteChecksUptoCard

/-- THE SECOND FORM's CARD OF 'homehublaw49.RemoteBytes'. -/
def remoteBytesUptoCard : Claim7 := { stood := { row := remoteBytesUptoRow, standIns := [], harness := (true, "dc999d89185705428c5669d199ba14a837be99a9d4a57d504c6aad46080d6c14"), looks := true }, kinds := [], alts := [], laidByText := true, laidKinds := [.data], laidTests := true, laidLooks := .later }
def RemoteBytesUptoCardSaid : Prop := Claim7.holds Tryz.pinned (.plain (OpenSpec.upto remoteBytesSpec)) remoteBytesUptoCard

/-- THE SECOND FORM's CARD OF 'homehublaw49.RemoteAdmits'. -/
def remoteAdmitsUptoCard : Claim7 := { stood := { row := remoteAdmitsUptoRow, standIns := [], harness := (true, "dc999d89185705428c5669d199ba14a837be99a9d4a57d504c6aad46080d6c14"), looks := true }, kinds := [], alts := [], laidByText := true, laidKinds := [.data], laidTests := true, laidLooks := .later }
def RemoteAdmitsUptoCardSaid : Prop := Claim7.holds Tryz.pinned (.plain (OpenSpec.upto remoteAdmitsSpec)) remoteAdmitsUptoCard

/-- THE SECOND FORM's CARD OF 'homehublaw49.RemoteBack'. -/
def remoteBackUptoCard : Claim7 := { stood := { row := remoteBackUptoRow, standIns := [], harness := (true, "dc999d89185705428c5669d199ba14a837be99a9d4a57d504c6aad46080d6c14"), looks := true }, kinds := [], alts := [], laidByText := true, laidKinds := [.data], laidTests := true, laidLooks := .later }
def RemoteBackUptoCardSaid : Prop := Claim7.holds Tryz.pinned (.plain (OpenSpec.upto remoteBackSpec)) remoteBackUptoCard

/-- THE SECOND FORM's CARD OF 'homehublaw49.RemoteOnce'. -/
def remoteOnceUptoCard : Claim7 := { stood := { row := remoteOnceUptoRow, standIns := [], harness := (true, "dc999d89185705428c5669d199ba14a837be99a9d4a57d504c6aad46080d6c14"), looks := true }, kinds := [], alts := [], laidByText := true, laidKinds := [.data], laidTests := true, laidLooks := .later }
def RemoteOnceUptoCardSaid : Prop := Claim7.holds Tryz.pinned (.plain (OpenSpec.upto remoteOnceSpec)) remoteOnceUptoCard

/-- THE SECOND FORM's CARD OF 'homehublaw49.RemoteOthers'. -/
def remoteOthersUptoCard : Claim7 := { stood := { row := remoteOthersUptoRow, standIns := [], harness := (true, "dc999d89185705428c5669d199ba14a837be99a9d4a57d504c6aad46080d6c14"), looks := true }, kinds := [], alts := [], laidByText := true, laidKinds := [.data], laidTests := true, laidLooks := .later }
def RemoteOthersUptoCardSaid : Prop := Claim7.holds Tryz.pinned (.plain (OpenSpec.upto remoteOthersSpec)) remoteOthersUptoCard

/-- THE SECOND FORM's CARD OF 'homehublaw49.RemoteWrites'. -/
def remoteWritesUptoCard : Claim7 := { stood := { row := remoteWritesUptoRow, standIns := [], harness := (true, "dc999d89185705428c5669d199ba14a837be99a9d4a57d504c6aad46080d6c14"), looks := true }, kinds := [], alts := [], laidByText := true, laidKinds := [.data], laidTests := true, laidLooks := .later }
def RemoteWritesUptoCardSaid : Prop := Claim7.holds Tryz.pinned (.plain (OpenSpec.upto remoteWritesSpec)) remoteWritesUptoCard
end Rows
end Go.Proofs.YtmkpmgfieagphaaGreatDoor
