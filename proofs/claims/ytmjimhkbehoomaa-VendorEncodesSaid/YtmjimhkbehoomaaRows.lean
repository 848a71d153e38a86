/-
  No cell of these rows narrows 'for every input' (looked for: loops, veiled, ifaces, maps, wideKeys, modest, calm, conditions, laid).
  DERIVED. THE GIVEN ROWS OF THIS SEAT. 5 by the template 'for every input the law returns true; each argument reads behind the call as it read before'; 0 by the template 'total and deterministic' (their statements: YtmjimhkbehoomaaTotals.lean).
  GIVEN WITH THE SEED: the statements are not yours to turn. If you find one false, say at which input.
  Laid BY PROGRAM, IN A SANDBOX (cutbox-rows.mjs): the forced cells as the released guide's own fill.sh prints them over the translation 64ee578276c0a941… (all of the seat's roots in one cut). By AI agents, Wed Nov 11 2026. No macro, syntax, notation, axiom, sorry.
-/
import Derived.Test.YtmjimhkbehoomaaChecked
import GoSem.Claim
import GoSem.ClaimJoined
import GoSem.ClaimMapViews
import Derived.JoinedTies
import Derived.KernelRfl
namespace Go.Proofs.Ytmjimhkbehoomaa
/- THE CELL 'sum', in the pinned program and in every row, IS THE sha256 OF THE DUMP (.gsa) THAT YtmjimhkbehoomaaProg.lean LOADS. Nothing in Lean hashes anything: it is a label: what it is worth is what the hold of that sum in a sandbox is worth. -/
noncomputable def Try.pinned : Pinned := { name := "ytmjimhkbehoomaa", sum := "64ee578276c0a94120e2d56a19149102c53ee49ede2d00f2548cb7ba4ca1171e", checked := Try.checked }
namespace Rows
def none {H : Type} : Left H := { results := [], args := [] }

/-- 'homehublaw23.VendorChecks': WHATEVER THE INPUT: true; the input reads as it did. -/
def vendorChecksSpec : ChangeSpec := { name := "vendorChecks", fn := fun _ => fun
  | [d1, d2] => { results := [.lit (.bool true)], args := [d1, d2] }
  | _ => none }
def vendorChecksRow : OpenClaim := { program := "ytmjimhkbehoomaa", sum := "64ee578276c0a94120e2d56a19149102c53ee49ede2d00f2548cb7ba4ca1171e", func := "homehub/homehublaw23.VendorChecks", spec := "vendorChecks", unfollowed := true, recurses := true, apart := false }
def VendorChecksSaid : Prop := vendorChecksRow.holds Try.pinned (OpenSpec.ofChange vendorChecksSpec)

/-- ITS FALSE NEIGHBOUR: 'it returns false'. Refute it at one input. -/
def vendorChecksWrong : ChangeSpec := { name := "vendorChecks", fn := fun _ => fun
  | [d1, d2] => { results := [.lit (.bool false)], args := [d1, d2] }
  | _ => none }
def VendorChecksWrongFalsely : Prop := vendorChecksRow.holds Try.pinned (OpenSpec.ofChange vendorChecksWrong)

/-- 'homehublaw23.VendorDecodes': WHATEVER THE INPUT: true; the input reads as it did. -/
def vendorDecodesSpec : ChangeSpec := { name := "vendorDecodes", fn := fun _ => fun
  | [d1, d2, d3] => { results := [.lit (.bool true)], args := [d1, d2, d3] }
  | _ => none }
def vendorDecodesRow : OpenClaim := { program := "ytmjimhkbehoomaa", sum := "64ee578276c0a94120e2d56a19149102c53ee49ede2d00f2548cb7ba4ca1171e", func := "homehub/homehublaw23.VendorDecodes", spec := "vendorDecodes", unfollowed := true, recurses := true, apart := false }
def VendorDecodesSaid : Prop := vendorDecodesRow.holds Try.pinned (OpenSpec.ofChange vendorDecodesSpec)

/-- ITS FALSE NEIGHBOUR: 'it returns false'. Refute it at one input. -/
def vendorDecodesWrong : ChangeSpec := { name := "vendorDecodes", fn := fun _ => fun
  | [d1, d2, d3] => { results := [.lit (.bool false)], args := [d1, d2, d3] }
  | _ => none }
def VendorDecodesWrongFalsely : Prop := vendorDecodesRow.holds Try.pinned (OpenSpec.ofChange vendorDecodesWrong)

/-- 'homehublaw23.VendorEncodes': WHATEVER THE INPUT: true; the input reads as it did. -/
def vendorEncodesSpec : ChangeSpec := { name := "vendorEncodes", fn := fun _ => fun
  | [d1, d2, d3] => { results := [.lit (.bool true)], args := [d1, d2, d3] }
  | _ => none }
def vendorEncodesRow : OpenClaim := { program := "ytmjimhkbehoomaa", sum := "64ee578276c0a94120e2d56a19149102c53ee49ede2d00f2548cb7ba4ca1171e", func := "homehub/homehublaw23.VendorEncodes", spec := "vendorEncodes", unfollowed := true, recurses := true, apart := false }
def VendorEncodesSaid : Prop := vendorEncodesRow.holds Try.pinned (OpenSpec.ofChange vendorEncodesSpec)

/-- ITS FALSE NEIGHBOUR: 'it returns false'. Refute it at one input. -/
def vendorEncodesWrong : ChangeSpec := { name := "vendorEncodes", fn := fun _ => fun
  | [d1, d2, d3] => { results := [.lit (.bool false)], args := [d1, d2, d3] }
  | _ => none }
def VendorEncodesWrongFalsely : Prop := vendorEncodesRow.holds Try.pinned (OpenSpec.ofChange vendorEncodesWrong)

/-- 'homehublaw23.VendorBack': WHATEVER THE INPUT: true; the input reads as it did. -/
def vendorBackSpec : ChangeSpec := { name := "vendorBack", fn := fun _ => fun
  | [d1, d2, d3] => { results := [.lit (.bool true)], args := [d1, d2, d3] }
  | _ => none }
def vendorBackRow : OpenClaim := { program := "ytmjimhkbehoomaa", sum := "64ee578276c0a94120e2d56a19149102c53ee49ede2d00f2548cb7ba4ca1171e", func := "homehub/homehublaw23.VendorBack", spec := "vendorBack", unfollowed := true, recurses := true, apart := false }
def VendorBackSaid : Prop := vendorBackRow.holds Try.pinned (OpenSpec.ofChange vendorBackSpec)

/-- ITS FALSE NEIGHBOUR: 'it returns false'. Refute it at one input. -/
def vendorBackWrong : ChangeSpec := { name := "vendorBack", fn := fun _ => fun
  | [d1, d2, d3] => { results := [.lit (.bool false)], args := [d1, d2, d3] }
  | _ => none }
def VendorBackWrongFalsely : Prop := vendorBackRow.holds Try.pinned (OpenSpec.ofChange vendorBackWrong)

/-- 'homehublaw23.VendorParts': WHATEVER THE INPUT: true; the input reads as it did. -/
def vendorPartsSpec : ChangeSpec := { name := "vendorParts", fn := fun _ => fun
  | [d1, d2, d3] => { results := [.lit (.bool true)], args := [d1, d2, d3] }
  | _ => none }
def vendorPartsRow : OpenClaim := { program := "ytmjimhkbehoomaa", sum := "64ee578276c0a94120e2d56a19149102c53ee49ede2d00f2548cb7ba4ca1171e", func := "homehub/homehublaw23.VendorParts", spec := "vendorParts", unfollowed := true, recurses := true, apart := false }
def VendorPartsSaid : Prop := vendorPartsRow.holds Try.pinned (OpenSpec.ofChange vendorPartsSpec)

/-- ITS FALSE NEIGHBOUR: 'it returns false'. Refute it at one input. -/
def vendorPartsWrong : ChangeSpec := { name := "vendorParts", fn := fun _ => fun
  | [d1, d2, d3] => { results := [.lit (.bool false)], args := [d1, d2, d3] }
  | _ => none }
def VendorPartsWrongFalsely : Prop := vendorPartsRow.holds Try.pinned (OpenSpec.ofChange vendorPartsWrong)

/- THE SECOND FORM. 'bulk': how many values and letters a reading holds, each counted each time it is reached (what is shared counts as often as it is met; a slice's spare places count too). A statement '..UptoSaid' is the law's where the arguments, and the package variables that the reading takes, are together of bulk at most 1048576: NARROWER than '..Said'. Prove '..Said' where nothing that the law and all that it calls make is longer than what came in: it says more and counts as full. Else prove '..UptoSaid'. A law counts once. -/
mutual
def uptoBulk {H : Type} : DataW H → Nat
  | .lit (.string bytes) => bytes.length + 1
  | .lit _ => 1
  | .nil => 1
  | .ptr d => uptoBulk d + 1
  | .slice elems spare => uptoBulkAll elems + uptoBulkAll spare + 1
  | .agg parts => uptoBulkAll parts + 1
  | .iface _ d => uptoBulk d + 1
  | .map entries => uptoBulkEntries entries + 1
  | .held _ => 1
def uptoBulkAll {H : Type} : List (DataW H) → Nat
  | [] => 0
  | d :: r => uptoBulk d + uptoBulkAll r
def uptoBulkEntries {H : Type} : List (Lit × DataW H) → Nat
  | [] => 0
  | x :: r => uptoBulkEntry x + uptoBulkEntries r
def uptoBulkEntry {H : Type} : Lit × DataW H → Nat
  | (.string bytes, d) => bytes.length + uptoBulk d + 1
  | (_, d) => uptoBulk d + 1
 end
def uptoSmall : (H : Type) → List (DataW H) → Bool := fun _ ds => decide (uptoBulkAll ds ≤ 1048576)
def OpenSpec.upto (s : _root_.Go.ChangeSpec) : _root_.Go.OpenSpec := { _root_.Go.OpenSpec.ofChange s with cond := some uptoSmall }

/-- 'homehublaw23.VendorChecks', WHERE WHAT IT READS IS OF BULK AT MOST 1048576: true; the input reads as it did. -/
def vendorChecksUptoRow : OpenClaim := { program := "ytmjimhkbehoomaa", sum := "64ee578276c0a94120e2d56a19149102c53ee49ede2d00f2548cb7ba4ca1171e", func := "homehub/homehublaw23.VendorChecks", spec := "vendorChecks", unfollowed := true, recurses := true, apart := false, narrowed := true }
def VendorChecksUptoSaid : Prop := vendorChecksUptoRow.holds Try.pinned (OpenSpec.upto vendorChecksSpec)

/-- 'homehublaw23.VendorDecodes', WHERE WHAT IT READS IS OF BULK AT MOST 1048576: true; the input reads as it did. -/
def vendorDecodesUptoRow : OpenClaim := { program := "ytmjimhkbehoomaa", sum := "64ee578276c0a94120e2d56a19149102c53ee49ede2d00f2548cb7ba4ca1171e", func := "homehub/homehublaw23.VendorDecodes", spec := "vendorDecodes", unfollowed := true, recurses := true, apart := false, narrowed := true }
def VendorDecodesUptoSaid : Prop := vendorDecodesUptoRow.holds Try.pinned (OpenSpec.upto vendorDecodesSpec)

/-- 'homehublaw23.VendorEncodes', WHERE WHAT IT READS IS OF BULK AT MOST 1048576: true; the input reads as it did. -/
def vendorEncodesUptoRow : OpenClaim := { program := "ytmjimhkbehoomaa", sum := "64ee578276c0a94120e2d56a19149102c53ee49ede2d00f2548cb7ba4ca1171e", func := "homehub/homehublaw23.VendorEncodes", spec := "vendorEncodes", unfollowed := true, recurses := true, apart := false, narrowed := true }
def VendorEncodesUptoSaid : Prop := vendorEncodesUptoRow.holds Try.pinned (OpenSpec.upto vendorEncodesSpec)

/-- 'homehublaw23.VendorBack', WHERE WHAT IT READS IS OF BULK AT MOST 1048576: true; the input reads as it did. -/
def vendorBackUptoRow : OpenClaim := { program := "ytmjimhkbehoomaa", sum := "64ee578276c0a94120e2d56a19149102c53ee49ede2d00f2548cb7ba4ca1171e", func := "homehub/homehublaw23.VendorBack", spec := "vendorBack", unfollowed := true, recurses := true, apart := false, narrowed := true }
def VendorBackUptoSaid : Prop := vendorBackUptoRow.holds Try.pinned (OpenSpec.upto vendorBackSpec)

/-- 'homehublaw23.VendorParts', WHERE WHAT IT READS IS OF BULK AT MOST 1048576: true; the input reads as it did. -/
def vendorPartsUptoRow : OpenClaim := { program := "ytmjimhkbehoomaa", sum := "64ee578276c0a94120e2d56a19149102c53ee49ede2d00f2548cb7ba4ca1171e", func := "homehub/homehublaw23.VendorParts", spec := "vendorParts", unfollowed := true, recurses := true, apart := false, narrowed := true }
def VendorPartsUptoSaid : Prop := vendorPartsUptoRow.holds Try.pinned (OpenSpec.upto vendorPartsSpec)

end Rows
end Go.Proofs.Ytmjimhkbehoomaa
