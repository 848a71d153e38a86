/-
  DERIVED. GIVEN WITH THE SEED: THE CARDS: each row of YtelohjccoimnaaaDoorRows.lean that lists a variable, with what it lists TIED to the program's text (the seventh form; the later family's looks); each row that meets fmt, with fmt's text TOLD by the authors' own Lean function (tested against real Go, not proved from fmt's source: count such statements apart). THE CARD IS WHAT COUNTS. Prove the row's statement (the work); the ties are given (YtelohjccoimnaaaDoorTie.lean); close each card by the builder's one call (the guide's Derived/Test/ToyasCard.lean, 'card_holds'). Laid BY PROGRAM, IN A SANDBOX (cutbox-door.mjs). By AI agents, Wed Nov 11 2026. No macro, syntax, notation, axiom, sorry.
-/
import Derived.Test.YtelohjccoimnaaaDoorRows
import GoSem.ClaimSeven
namespace Go.Proofs.YtelohjccoimnaaaDoor
namespace Rows

/-- THE TIED CARD OF 'homehublaw21.ClusterChecks'. -/
def clusterChecksCard : Claim7 := { stood := { row := clusterChecksRow, standIns := [], harness := (true, "1d4e92cfaf7d7590f9157579c0b6641fd5a1ec0285a17824413f154db8482270"), looks := false }, kinds := [], alts := [], laidByText := true, laidKinds := [.data], laidTests := true, laidLooks := .later }
def ClusterChecksCardSaid : Prop := Claim7.holds Tryd.pinned (.plain (OpenSpec.ofChange clusterChecksSpec)) clusterChecksCard

/-- THE TIED CARD OF 'homehublaw21.ClusterFinds'. -/
def clusterFindsCard : Claim7 := { stood := { row := clusterFindsRow, standIns := [], harness := (true, "1d4e92cfaf7d7590f9157579c0b6641fd5a1ec0285a17824413f154db8482270"), looks := false }, kinds := [], alts := [], laidByText := true, laidKinds := [.data], laidTests := true, laidLooks := .later }
def ClusterFindsCardSaid : Prop := Claim7.holds Tryd.pinned (.plain (OpenSpec.ofChange clusterFindsSpec)) clusterFindsCard

/-- THE TIED CARD OF 'homehublaw21.ClusterApplies'. -/
def clusterAppliesCard : Claim7 := { stood := { row := clusterAppliesRow, standIns := [], harness := (true, "1d4e92cfaf7d7590f9157579c0b6641fd5a1ec0285a17824413f154db8482270"), looks := false }, kinds := [], alts := [], laidByText := true, laidKinds := [.data], laidTests := true, laidLooks := .later }
def ClusterAppliesCardSaid : Prop := Claim7.holds Tryd.pinned (.plain (OpenSpec.ofChange clusterAppliesSpec)) clusterAppliesCard

/-- THE TIED CARD OF 'homehublaw21.ClusterCloses'. -/
def clusterClosesCard : Claim7 := { stood := { row := clusterClosesRow, standIns := [], harness := (true, "1d4e92cfaf7d7590f9157579c0b6641fd5a1ec0285a17824413f154db8482270"), looks := false }, kinds := [], alts := [], laidByText := true, laidKinds := [.data], laidTests := true, laidLooks := .later }
def ClusterClosesCardSaid : Prop := Claim7.holds Tryd.pinned (.plain (OpenSpec.ofChange clusterClosesSpec)) clusterClosesCard

/-- THE TIED CARD OF 'homehublaw21.ClusterRepeats'. -/
def clusterRepeatsCard : Claim7 := { stood := { row := clusterRepeatsRow, standIns := [], harness := (true, "1d4e92cfaf7d7590f9157579c0b6641fd5a1ec0285a17824413f154db8482270"), looks := false }, kinds := [], alts := [], laidByText := true, laidKinds := [.data], laidTests := true, laidLooks := .later }
def ClusterRepeatsCardSaid : Prop := Claim7.holds Tryd.pinned (.plain (OpenSpec.ofChange clusterRepeatsSpec)) clusterRepeatsCard

/-- THE TIED CARD OF 'homehublaw21.ClusterLists'. -/
def clusterListsCard : Claim7 := { stood := { row := clusterListsRow, standIns := [], harness := (true, "1d4e92cfaf7d7590f9157579c0b6641fd5a1ec0285a17824413f154db8482270"), looks := false }, kinds := [], alts := [], laidByText := true, laidKinds := [.data], laidTests := true, laidLooks := .later }
def ClusterListsCardSaid : Prop := Claim7.holds Tryd.pinned (.plain (OpenSpec.ofChange clusterListsSpec)) clusterListsCard

/-- THE TIED CARD OF 'homehublaw21.ClusterStandard'. -/
def clusterStandardCard : Claim7 := { stood := { row := clusterStandardRow, standIns := [], harness := (true, "1d4e92cfaf7d7590f9157579c0b6641fd5a1ec0285a17824413f154db8482270"), looks := false }, kinds := [], alts := [], laidByText := true, laidKinds := [.data], laidTests := true, laidLooks := .later }
def ClusterStandardCardSaid : Prop := Claim7.holds Tryd.pinned (.plain (OpenSpec.ofChange clusterStandardSpec)) clusterStandardCard

/-- THE TIED CARD OF 'homehublaw21.ClusterParts'. -/
def clusterPartsCard : Claim7 := { stood := { row := clusterPartsRow, standIns := [], harness := (true, "1d4e92cfaf7d7590f9157579c0b6641fd5a1ec0285a17824413f154db8482270"), looks := false }, kinds := [], alts := [], laidByText := true, laidKinds := [.data], laidTests := true, laidLooks := .later }
def ClusterPartsCardSaid : Prop := Claim7.holds Tryd.pinned (.plain (OpenSpec.ofChange clusterPartsSpec)) clusterPartsCard

/-- THE SECOND FORM's CARD OF 'homehublaw21.ClusterChecks'. -/
def clusterChecksUptoCard : Claim7 := { stood := { row := clusterChecksUptoRow, standIns := [], harness := (true, "1d4e92cfaf7d7590f9157579c0b6641fd5a1ec0285a17824413f154db8482270"), looks := false }, kinds := [], alts := [], laidByText := true, laidKinds := [.data], laidTests := true, laidLooks := .later }
def ClusterChecksUptoCardSaid : Prop := Claim7.holds Tryd.pinned (.plain (OpenSpec.upto clusterChecksSpec)) clusterChecksUptoCard

/-- THE SECOND FORM's CARD OF 'homehublaw21.ClusterFinds'. -/
def clusterFindsUptoCard : Claim7 := { stood := { row := clusterFindsUptoRow, standIns := [], harness := (true, "1d4e92cfaf7d7590f9157579c0b6641fd5a1ec0285a17824413f154db8482270"), looks := false }, kinds := [], alts := [], laidByText := true, laidKinds := [.data], laidTests := true, laidLooks := .later }
def ClusterFindsUptoCardSaid : Prop := Claim7.holds Tryd.pinned (.plain (OpenSpec.upto clusterFindsSpec)) clusterFindsUptoCard

/-- THE SECOND FORM's CARD OF 'homehublaw21.ClusterApplies'. -/
def clusterAppliesUptoCard : Claim7 := { stood := { row := clusterAppliesUptoRow, standIns := [], harness := (true, "1d4e92cfaf7d7590f9157579c0b6641fd5a1ec0285a17824413f154db8482270"), looks := false }, kinds := [], alts := [], laidByText := true, laidKinds := [.data], laidTests := true, laidLooks := .later }
def ClusterAppliesUptoCardSaid : Prop := Claim7.holds Tryd.pinned (.plain (OpenSpec.upto clusterAppliesSpec)) clusterAppliesUptoCard

/-- THE SECOND FORM's CARD OF 'homehublaw21.ClusterCloses'. -/
def clusterClosesUptoCard : Claim7 := { stood := { row := clusterClosesUptoRow, standIns := [], harness := (true, "1d4e92cfaf7d7590f9157579c0b6641fd5a1ec0285a17824413f154db8482270"), looks := false }, kinds := [], alts := [], laidByText := true, laidKinds := [.data], laidTests := true, laidLooks := .later }
def ClusterClosesUptoCardSaid : Prop := Claim7.holds Tryd.pinned (.plain (OpenSpec.upto clusterClosesSpec)) clusterClosesUptoCard

/-- THE SECOND FORM's CARD OF 'homehublaw21.ClusterRepeats'. -/
def clusterRepeatsUptoCard : Claim7 := { stood := { row := clusterRepeatsUptoRow, standIns := [], harness := (true, "1d4e92cfaf7d7590f9157579c0b6641fd5a1ec0285a17824413f154db8482270"), looks := false }, kinds := [], alts := [], laidByText := true, laidKinds := [.data], laidTests := true, laidLooks := .later }
def ClusterRepeatsUptoCardSaid : Prop := Claim7.holds Tryd.pinned (.plain (OpenSpec.upto clusterRepeatsSpec)) clusterRepeatsUptoCard

/-- THE SECOND FORM's CARD OF 'homehublaw21.ClusterLists'. -/
def clusterListsUptoCard : Claim7 := { stood := { row := clusterListsUptoRow, standIns := [], harness := (true, "1d4e92cfaf7d7590f9157579c0b6641fd5a1ec0285a17824413f154db8482270"), looks := false }, kinds := [], alts := [], laidByText := true, laidKinds := [.data], laidTests := true, laidLooks := .later }
def ClusterListsUptoCardSaid : Prop := Claim7.holds Tryd.pinned (.plain (OpenSpec.upto clusterListsSpec)) clusterListsUptoCard

/-- THE SECOND FORM's CARD OF 'homehublaw21.ClusterStandard'. -/
def clusterStandardUptoCard : Claim7 := { stood := { row := clusterStandardUptoRow, standIns := [], harness := (true, "1d4e92cfaf7d7590f9157579c0b6641fd5a1ec0285a17824413f154db8482270"), looks := false }, kinds := [], alts := [], laidByText := true, laidKinds := [.data], laidTests := true, laidLooks := .later }
def ClusterStandardUptoCardSaid : Prop := Claim7.holds Tryd.pinned (.plain (OpenSpec.upto clusterStandardSpec)) clusterStandardUptoCard

/-- THE SECOND FORM's CARD OF 'homehublaw21.ClusterParts'. -/
def clusterPartsUptoCard : Claim7 := { stood := { row := clusterPartsUptoRow, standIns := [], harness := (true, "1d4e92cfaf7d7590f9157579c0b6641fd5a1ec0285a17824413f154db8482270"), looks := false }, kinds := [], alts := [], laidByText := true, laidKinds := [.data], laidTests := true, laidLooks := .later }
def ClusterPartsUptoCardSaid : Prop := Claim7.holds Tryd.pinned (.plain (OpenSpec.upto clusterPartsSpec)) clusterPartsUptoCard
end Rows
end Go.Proofs.YtelohjccoimnaaaDoor
