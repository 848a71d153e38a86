/-
  NARROWER THAN 'FOR EVERY INPUT', by the rows' own cells (each row's printed sentence says how): ClusterChecks: laid · ClusterFinds: laid · ClusterApplies: laid · ClusterCloses: laid · ClusterRepeats: laid · ClusterLists: laid · ClusterStandard: laid · ClusterParts: laid.
  DERIVED. THE GIVEN ROWS OF THIS SEAT. 8 by the template 'for every input the law returns true; each argument reads behind the call as it read before'; 0 by the template 'total and deterministic' (their statements: YtelohjccoimnaaaDoorTotals.lean).
  GIVEN WITH THE SEED: the statements are not yours to turn. If you find one false, say at which input.
  Laid BY PROGRAM, IN A SANDBOX (cutbox-rows.mjs): the forced cells as the released guide's own fill.sh prints them over the translation 11c2c878edaff810… (all of the seat's roots in one cut). By AI agents, Wed Nov 11 2026. No macro, syntax, notation, axiom, sorry.
-/
import Derived.Test.YtelohjccoimnaaaDoorChecked
import GoSem.Claim
import GoSem.ClaimJoined
import GoSem.ClaimMapViews
import Derived.JoinedTies
import Derived.KernelRfl
namespace Go.Proofs.YtelohjccoimnaaaDoor
/- THE CELL 'sum', in the pinned program and in every row, IS THE sha256 OF THE DUMP (.gsa) THAT YtelohjccoimnaaaDoorProg.lean LOADS. Nothing in Lean hashes anything: it is a label: what it is worth is what the hold of that sum in a sandbox is worth. -/
noncomputable def Tryd.pinned : Pinned := { name := "ytelohjccoimnaaadoor", sum := "11c2c878edaff810197aacd3012ffcd78c3451966d46a5f7dc655c54c569add8", checked := Tryd.checked }
namespace Rows
def none {H : Type} : Left H := { results := [], args := [] }

/- WHAT THE LISTED PACKAGE-LEVEL VARIABLES READ AS WHEN THE CALL BEGINS. Each datum BY PROGRAM (the guide's laid-datum.mjs) off the statement by which the dump's own 'gosem.cut.vars' lays the variable. In a bare row this is a premise. The card (YtelohjccoimnaaaDoorCards.lean) ties it to the program's text. -/
def laid_homehub_cluster_standard {H : Type} : DataW H := .agg [.lit (.string [111, 110, 111, 102, 102]), .lit (.string [108, 101, 118, 101, 108]), .lit (.string [108, 111, 99, 107]), .lit (.string [116, 104, 101, 114, 109, 111, 115, 116, 97, 116]), .lit (.string [115, 109, 111, 107, 101]), .lit (.string [108, 101, 97, 107]), .lit (.string [118, 97, 108, 118, 101]), .lit (.string [109, 101, 116, 101, 114])]

/-- 'homehublaw21.ClusterChecks': WHATEVER THE INPUT: true; the input reads as it did. -/
def clusterChecksSpec : ChangeSpec := { name := "clusterChecks", fn := fun _ => fun
  | [d] => { results := [.lit (.bool true)], args := [d] }
  | _ => none }
def clusterChecksRow : OpenClaim := { program := "ytelohjccoimnaaadoor", sum := "11c2c878edaff810197aacd3012ffcd78c3451966d46a5f7dc655c54c569add8", func := "homehub/homehublaw21.ClusterChecks", spec := "clusterChecks", named := ["homehub/cluster.standard"], apart := false, laid := [("homehub/cluster.standard", laid_homehub_cluster_standard)] }
def ClusterChecksSaid : Prop := clusterChecksRow.holds Tryd.pinned (OpenSpec.ofChange clusterChecksSpec)

/-- ITS FALSE NEIGHBOUR: 'it returns false'. Refute it at one input. -/
def clusterChecksWrong : ChangeSpec := { name := "clusterChecks", fn := fun _ => fun
  | [d] => { results := [.lit (.bool false)], args := [d] }
  | _ => none }
def ClusterChecksWrongFalsely : Prop := clusterChecksRow.holds Tryd.pinned (OpenSpec.ofChange clusterChecksWrong)

/-- 'homehublaw21.ClusterFinds': WHATEVER THE INPUT: true; the input reads as it did. -/
def clusterFindsSpec : ChangeSpec := { name := "clusterFinds", fn := fun _ => fun
  | [d1, d2] => { results := [.lit (.bool true)], args := [d1, d2] }
  | _ => none }
def clusterFindsRow : OpenClaim := { program := "ytelohjccoimnaaadoor", sum := "11c2c878edaff810197aacd3012ffcd78c3451966d46a5f7dc655c54c569add8", func := "homehub/homehublaw21.ClusterFinds", spec := "clusterFinds", named := ["homehub/cluster.standard"], apart := false, laid := [("homehub/cluster.standard", laid_homehub_cluster_standard)] }
def ClusterFindsSaid : Prop := clusterFindsRow.holds Tryd.pinned (OpenSpec.ofChange clusterFindsSpec)

/-- ITS FALSE NEIGHBOUR: 'it returns false'. Refute it at one input. -/
def clusterFindsWrong : ChangeSpec := { name := "clusterFinds", fn := fun _ => fun
  | [d1, d2] => { results := [.lit (.bool false)], args := [d1, d2] }
  | _ => none }
def ClusterFindsWrongFalsely : Prop := clusterFindsRow.holds Tryd.pinned (OpenSpec.ofChange clusterFindsWrong)

/-- 'homehublaw21.ClusterApplies': WHATEVER THE INPUT: true; the input reads as it did. -/
def clusterAppliesSpec : ChangeSpec := { name := "clusterApplies", fn := fun _ => fun
  | [d1, d2, d3, d4] => { results := [.lit (.bool true)], args := [d1, d2, d3, d4] }
  | _ => none }
def clusterAppliesRow : OpenClaim := { program := "ytelohjccoimnaaadoor", sum := "11c2c878edaff810197aacd3012ffcd78c3451966d46a5f7dc655c54c569add8", func := "homehub/homehublaw21.ClusterApplies", spec := "clusterApplies", named := ["homehub/cluster.standard"], apart := false, laid := [("homehub/cluster.standard", laid_homehub_cluster_standard)] }
def ClusterAppliesSaid : Prop := clusterAppliesRow.holds Tryd.pinned (OpenSpec.ofChange clusterAppliesSpec)

/-- ITS FALSE NEIGHBOUR: 'it returns false'. Refute it at one input. -/
def clusterAppliesWrong : ChangeSpec := { name := "clusterApplies", fn := fun _ => fun
  | [d1, d2, d3, d4] => { results := [.lit (.bool false)], args := [d1, d2, d3, d4] }
  | _ => none }
def ClusterAppliesWrongFalsely : Prop := clusterAppliesRow.holds Tryd.pinned (OpenSpec.ofChange clusterAppliesWrong)

/-- 'homehublaw21.ClusterCloses': WHATEVER THE INPUT: true; the input reads as it did. -/
def clusterClosesSpec : ChangeSpec := { name := "clusterCloses", fn := fun _ => fun
  | [d1, d2, d3, d4] => { results := [.lit (.bool true)], args := [d1, d2, d3, d4] }
  | _ => none }
def clusterClosesRow : OpenClaim := { program := "ytelohjccoimnaaadoor", sum := "11c2c878edaff810197aacd3012ffcd78c3451966d46a5f7dc655c54c569add8", func := "homehub/homehublaw21.ClusterCloses", spec := "clusterCloses", named := ["homehub/cluster.standard"], apart := false, laid := [("homehub/cluster.standard", laid_homehub_cluster_standard)] }
def ClusterClosesSaid : Prop := clusterClosesRow.holds Tryd.pinned (OpenSpec.ofChange clusterClosesSpec)

/-- ITS FALSE NEIGHBOUR: 'it returns false'. Refute it at one input. -/
def clusterClosesWrong : ChangeSpec := { name := "clusterCloses", fn := fun _ => fun
  | [d1, d2, d3, d4] => { results := [.lit (.bool false)], args := [d1, d2, d3, d4] }
  | _ => none }
def ClusterClosesWrongFalsely : Prop := clusterClosesRow.holds Tryd.pinned (OpenSpec.ofChange clusterClosesWrong)

/-- 'homehublaw21.ClusterRepeats': WHATEVER THE INPUT: true; the input reads as it did. -/
def clusterRepeatsSpec : ChangeSpec := { name := "clusterRepeats", fn := fun _ => fun
  | [d1, d2, d3, d4] => { results := [.lit (.bool true)], args := [d1, d2, d3, d4] }
  | _ => none }
def clusterRepeatsRow : OpenClaim := { program := "ytelohjccoimnaaadoor", sum := "11c2c878edaff810197aacd3012ffcd78c3451966d46a5f7dc655c54c569add8", func := "homehub/homehublaw21.ClusterRepeats", spec := "clusterRepeats", named := ["homehub/cluster.standard"], apart := false, laid := [("homehub/cluster.standard", laid_homehub_cluster_standard)] }
def ClusterRepeatsSaid : Prop := clusterRepeatsRow.holds Tryd.pinned (OpenSpec.ofChange clusterRepeatsSpec)

/-- ITS FALSE NEIGHBOUR: 'it returns false'. Refute it at one input. -/
def clusterRepeatsWrong : ChangeSpec := { name := "clusterRepeats", fn := fun _ => fun
  | [d1, d2, d3, d4] => { results := [.lit (.bool false)], args := [d1, d2, d3, d4] }
  | _ => none }
def ClusterRepeatsWrongFalsely : Prop := clusterRepeatsRow.holds Tryd.pinned (OpenSpec.ofChange clusterRepeatsWrong)

/-- 'homehublaw21.ClusterLists': WHATEVER THE INPUT: true; the input reads as it did. -/
def clusterListsSpec : ChangeSpec := { name := "clusterLists", fn := fun _ => fun
  | [d] => { results := [.lit (.bool true)], args := [d] }
  | _ => none }
def clusterListsRow : OpenClaim := { program := "ytelohjccoimnaaadoor", sum := "11c2c878edaff810197aacd3012ffcd78c3451966d46a5f7dc655c54c569add8", func := "homehub/homehublaw21.ClusterLists", spec := "clusterLists", named := ["homehub/cluster.standard"], apart := false, laid := [("homehub/cluster.standard", laid_homehub_cluster_standard)] }
def ClusterListsSaid : Prop := clusterListsRow.holds Tryd.pinned (OpenSpec.ofChange clusterListsSpec)

/-- ITS FALSE NEIGHBOUR: 'it returns false'. Refute it at one input. -/
def clusterListsWrong : ChangeSpec := { name := "clusterLists", fn := fun _ => fun
  | [d] => { results := [.lit (.bool false)], args := [d] }
  | _ => none }
def ClusterListsWrongFalsely : Prop := clusterListsRow.holds Tryd.pinned (OpenSpec.ofChange clusterListsWrong)

/-- 'homehublaw21.ClusterStandard': WHATEVER THE INPUT: true; the input reads as it did. -/
def clusterStandardSpec : ChangeSpec := { name := "clusterStandard", fn := fun _ => fun
  | [d] => { results := [.lit (.bool true)], args := [d] }
  | _ => none }
def clusterStandardRow : OpenClaim := { program := "ytelohjccoimnaaadoor", sum := "11c2c878edaff810197aacd3012ffcd78c3451966d46a5f7dc655c54c569add8", func := "homehub/homehublaw21.ClusterStandard", spec := "clusterStandard", named := ["homehub/cluster.standard"], apart := false, laid := [("homehub/cluster.standard", laid_homehub_cluster_standard)] }
def ClusterStandardSaid : Prop := clusterStandardRow.holds Tryd.pinned (OpenSpec.ofChange clusterStandardSpec)

/-- ITS FALSE NEIGHBOUR: 'it returns false'. Refute it at one input. -/
def clusterStandardWrong : ChangeSpec := { name := "clusterStandard", fn := fun _ => fun
  | [d] => { results := [.lit (.bool false)], args := [d] }
  | _ => none }
def ClusterStandardWrongFalsely : Prop := clusterStandardRow.holds Tryd.pinned (OpenSpec.ofChange clusterStandardWrong)

/-- 'homehublaw21.ClusterParts': WHATEVER THE INPUT: true; the input reads as it did. -/
def clusterPartsSpec : ChangeSpec := { name := "clusterParts", fn := fun _ => fun
  | [d] => { results := [.lit (.bool true)], args := [d] }
  | _ => none }
def clusterPartsRow : OpenClaim := { program := "ytelohjccoimnaaadoor", sum := "11c2c878edaff810197aacd3012ffcd78c3451966d46a5f7dc655c54c569add8", func := "homehub/homehublaw21.ClusterParts", spec := "clusterParts", named := ["homehub/cluster.standard"], apart := false, laid := [("homehub/cluster.standard", laid_homehub_cluster_standard)] }
def ClusterPartsSaid : Prop := clusterPartsRow.holds Tryd.pinned (OpenSpec.ofChange clusterPartsSpec)

/-- ITS FALSE NEIGHBOUR: 'it returns false'. Refute it at one input. -/
def clusterPartsWrong : ChangeSpec := { name := "clusterParts", fn := fun _ => fun
  | [d] => { results := [.lit (.bool false)], args := [d] }
  | _ => none }
def ClusterPartsWrongFalsely : Prop := clusterPartsRow.holds Tryd.pinned (OpenSpec.ofChange clusterPartsWrong)

/- THE SECOND FORM. 'bulk': how many values and letters a reading holds, each counted each time it is reached (what is shared counts as often as it is met; a slice's spare places count too). A statement '..UptoSaid' is the law's where the arguments, and the package variables that the reading takes, are together of bulk at most 1048576: NARROWER than '..Said'. Prove '..Said' where nothing that the law and all that it calls make is longer than what came in: it says more and counts as full. Else prove '..UptoSaid'. A law counts once. -/
mutual
def uptoBulk {H : Type} : DataW H → Nat
  | .lit (.string bytes) => bytes.length + 1
  | .lit _ => 1
  | .nil => 1
  | .ptr d => uptoBulk d + 1
  | .slice elems spare => uptoBulkAll elems + uptoBulkAll spare + 1
  | .agg parts => uptoBulkAll parts + 1
  | .iface _ d => uptoBulk d + 1
  | .map entries => uptoBulkEntries entries + 1
  | .held _ => 1
def uptoBulkAll {H : Type} : List (DataW H) → Nat
  | [] => 0
  | d :: r => uptoBulk d + uptoBulkAll r
def uptoBulkEntries {H : Type} : List (Lit × DataW H) → Nat
  | [] => 0
  | x :: r => uptoBulkEntry x + uptoBulkEntries r
def uptoBulkEntry {H : Type} : Lit × DataW H → Nat
  | (.string bytes, d) => bytes.length + uptoBulk d + 1
  | (_, d) => uptoBulk d + 1
 end
def uptoSmall : (H : Type) → List (DataW H) → Bool := fun _ ds => decide (uptoBulkAll ds ≤ 1048576)
def OpenSpec.upto (s : _root_.Go.ChangeSpec) : _root_.Go.OpenSpec := { _root_.Go.OpenSpec.ofChange s with cond := some uptoSmall }

/-- 'homehublaw21.ClusterChecks', WHERE WHAT IT READS IS OF BULK AT MOST 1048576: true; the input reads as it did. -/
def clusterChecksUptoRow : OpenClaim := { program := "ytelohjccoimnaaadoor", sum := "11c2c878edaff810197aacd3012ffcd78c3451966d46a5f7dc655c54c569add8", func := "homehub/homehublaw21.ClusterChecks", spec := "clusterChecks", named := ["homehub/cluster.standard"], apart := false, laid := [("homehub/cluster.standard", laid_homehub_cluster_standard)], narrowed := true }
def ClusterChecksUptoSaid : Prop := clusterChecksUptoRow.holds Tryd.pinned (OpenSpec.upto clusterChecksSpec)

/-- 'homehublaw21.ClusterFinds', WHERE WHAT IT READS IS OF BULK AT MOST 1048576: true; the input reads as it did. -/
def clusterFindsUptoRow : OpenClaim := { program := "ytelohjccoimnaaadoor", sum := "11c2c878edaff810197aacd3012ffcd78c3451966d46a5f7dc655c54c569add8", func := "homehub/homehublaw21.ClusterFinds", spec := "clusterFinds", named := ["homehub/cluster.standard"], apart := false, laid := [("homehub/cluster.standard", laid_homehub_cluster_standard)], narrowed := true }
def ClusterFindsUptoSaid : Prop := clusterFindsUptoRow.holds Tryd.pinned (OpenSpec.upto clusterFindsSpec)

/-- 'homehublaw21.ClusterApplies', WHERE WHAT IT READS IS OF BULK AT MOST 1048576: true; the input reads as it did. -/
def clusterAppliesUptoRow : OpenClaim := { program := "ytelohjccoimnaaadoor", sum := "11c2c878edaff810197aacd3012ffcd78c3451966d46a5f7dc655c54c569add8", func := "homehub/homehublaw21.ClusterApplies", spec := "clusterApplies", named := ["homehub/cluster.standard"], apart := false, laid := [("homehub/cluster.standard", laid_homehub_cluster_standard)], narrowed := true }
def ClusterAppliesUptoSaid : Prop := clusterAppliesUptoRow.holds Tryd.pinned (OpenSpec.upto clusterAppliesSpec)

/-- 'homehublaw21.ClusterCloses', WHERE WHAT IT READS IS OF BULK AT MOST 1048576: true; the input reads as it did. -/
def clusterClosesUptoRow : OpenClaim := { program := "ytelohjccoimnaaadoor", sum := "11c2c878edaff810197aacd3012ffcd78c3451966d46a5f7dc655c54c569add8", func := "homehub/homehublaw21.ClusterCloses", spec := "clusterCloses", named := ["homehub/cluster.standard"], apart := false, laid := [("homehub/cluster.standard", laid_homehub_cluster_standard)], narrowed := true }
def ClusterClosesUptoSaid : Prop := clusterClosesUptoRow.holds Tryd.pinned (OpenSpec.upto clusterClosesSpec)

/-- 'homehublaw21.ClusterRepeats', WHERE WHAT IT READS IS OF BULK AT MOST 1048576: true; the input reads as it did. -/
def clusterRepeatsUptoRow : OpenClaim := { program := "ytelohjccoimnaaadoor", sum := "11c2c878edaff810197aacd3012ffcd78c3451966d46a5f7dc655c54c569add8", func := "homehub/homehublaw21.ClusterRepeats", spec := "clusterRepeats", named := ["homehub/cluster.standard"], apart := false, laid := [("homehub/cluster.standard", laid_homehub_cluster_standard)], narrowed := true }
def ClusterRepeatsUptoSaid : Prop := clusterRepeatsUptoRow.holds Tryd.pinned (OpenSpec.upto clusterRepeatsSpec)

/-- 'homehublaw21.ClusterLists', WHERE WHAT IT READS IS OF BULK AT MOST 1048576: true; the input reads as it did. -/
def clusterListsUptoRow : OpenClaim := { program := "ytelohjccoimnaaadoor", sum := "11c2c878edaff810197aacd3012ffcd78c3451966d46a5f7dc655c54c569add8", func := "homehub/homehublaw21.ClusterLists", spec := "clusterLists", named := ["homehub/cluster.standard"], apart := false, laid := [("homehub/cluster.standard", laid_homehub_cluster_standard)], narrowed := true }
def ClusterListsUptoSaid : Prop := clusterListsUptoRow.holds Tryd.pinned (OpenSpec.upto clusterListsSpec)

/-- 'homehublaw21.ClusterStandard', WHERE WHAT IT READS IS OF BULK AT MOST 1048576: true; the input reads as it did. -/
def clusterStandardUptoRow : OpenClaim := { program := "ytelohjccoimnaaadoor", sum := "11c2c878edaff810197aacd3012ffcd78c3451966d46a5f7dc655c54c569add8", func := "homehub/homehublaw21.ClusterStandard", spec := "clusterStandard", named := ["homehub/cluster.standard"], apart := false, laid := [("homehub/cluster.standard", laid_homehub_cluster_standard)], narrowed := true }
def ClusterStandardUptoSaid : Prop := clusterStandardUptoRow.holds Tryd.pinned (OpenSpec.upto clusterStandardSpec)

/-- 'homehublaw21.ClusterParts', WHERE WHAT IT READS IS OF BULK AT MOST 1048576: true; the input reads as it did. -/
def clusterPartsUptoRow : OpenClaim := { program := "ytelohjccoimnaaadoor", sum := "11c2c878edaff810197aacd3012ffcd78c3451966d46a5f7dc655c54c569add8", func := "homehub/homehublaw21.ClusterParts", spec := "clusterParts", named := ["homehub/cluster.standard"], apart := false, laid := [("homehub/cluster.standard", laid_homehub_cluster_standard)], narrowed := true }
def ClusterPartsUptoSaid : Prop := clusterPartsUptoRow.holds Tryd.pinned (OpenSpec.upto clusterPartsSpec)

end Rows
end Go.Proofs.YtelohjccoimnaaaDoor
