/-
  No cell of these rows narrows 'for every input' (looked for: loops, veiled, ifaces, maps, wideKeys, modest, calm, conditions, laid).
  DERIVED. THE GIVEN ROWS OF THIS SEAT. 6 by the template 'for every input the law returns true; each argument reads behind the call as it read before'; 0 by the template 'total and deterministic' (their statements: YtnnlaccdendkpaaTotals.lean).
  GIVEN WITH THE SEED: the statements are not yours to turn. If you find one false, say at which input.
  Laid BY PROGRAM, IN A SANDBOX (cutbox-rows.mjs): the forced cells as the released guide's own fill.sh prints them over the translation 79d6fb4bc86e3408… (all of the seat's roots in one cut). By AI agents, Wed Nov 11 2026. No macro, syntax, notation, axiom, sorry.
-/
import Derived.Test.YtnnlaccdendkpaaChecked
import GoSem.Claim
import GoSem.ClaimJoined
import GoSem.ClaimMapViews
import Derived.JoinedTies
import Derived.KernelRfl
namespace Go.Proofs.Ytnnlaccdendkpaa
/- THE CELL 'sum', in the pinned program and in every row, IS THE sha256 OF THE DUMP (.gsa) THAT YtnnlaccdendkpaaProg.lean LOADS. Nothing in Lean hashes anything: it is a label: what it is worth is what the hold of that sum in a sandbox is worth. -/
noncomputable def Try.pinned : Pinned := { name := "ytnnlaccdendkpaa", sum := "79d6fb4bc86e3408043c55f3a2791aa898770b50b5f0135b03cb6e55ba505acb", checked := Try.checked }
namespace Rows
def none {H : Type} : Left H := { results := [], args := [] }

/-- 'homehublaw24.MsgChecks': WHATEVER THE INPUT: true; the input reads as it did. -/
def msgChecksSpec : ChangeSpec := { name := "msgChecks", fn := fun _ => fun
  | [d] => { results := [.lit (.bool true)], args := [d] }
  | _ => none }
def msgChecksRow : OpenClaim := { program := "ytnnlaccdendkpaa", sum := "79d6fb4bc86e3408043c55f3a2791aa898770b50b5f0135b03cb6e55ba505acb", func := "homehub/homehublaw24.MsgChecks", spec := "msgChecks", unfollowed := true, recurses := true, apart := false }
def MsgChecksSaid : Prop := msgChecksRow.holds Try.pinned (OpenSpec.ofChange msgChecksSpec)

/-- ITS FALSE NEIGHBOUR: 'it returns false'. Refute it at one input. -/
def msgChecksWrong : ChangeSpec := { name := "msgChecks", fn := fun _ => fun
  | [d] => { results := [.lit (.bool false)], args := [d] }
  | _ => none }
def MsgChecksWrongFalsely : Prop := msgChecksRow.holds Try.pinned (OpenSpec.ofChange msgChecksWrong)

/-- 'homehublaw24.MsgEncodes': WHATEVER THE INPUT: true; the input reads as it did. -/
def msgEncodesSpec : ChangeSpec := { name := "msgEncodes", fn := fun _ => fun
  | [d] => { results := [.lit (.bool true)], args := [d] }
  | _ => none }
def msgEncodesRow : OpenClaim := { program := "ytnnlaccdendkpaa", sum := "79d6fb4bc86e3408043c55f3a2791aa898770b50b5f0135b03cb6e55ba505acb", func := "homehub/homehublaw24.MsgEncodes", spec := "msgEncodes", unfollowed := true, recurses := true, apart := false }
def MsgEncodesSaid : Prop := msgEncodesRow.holds Try.pinned (OpenSpec.ofChange msgEncodesSpec)

/-- ITS FALSE NEIGHBOUR: 'it returns false'. Refute it at one input. -/
def msgEncodesWrong : ChangeSpec := { name := "msgEncodes", fn := fun _ => fun
  | [d] => { results := [.lit (.bool false)], args := [d] }
  | _ => none }
def MsgEncodesWrongFalsely : Prop := msgEncodesRow.holds Try.pinned (OpenSpec.ofChange msgEncodesWrong)

/-- 'homehublaw24.MsgDecodes': WHATEVER THE INPUT: true; the input reads as it did. -/
def msgDecodesSpec : ChangeSpec := { name := "msgDecodes", fn := fun _ => fun
  | [d] => { results := [.lit (.bool true)], args := [d] }
  | _ => none }
def msgDecodesRow : OpenClaim := { program := "ytnnlaccdendkpaa", sum := "79d6fb4bc86e3408043c55f3a2791aa898770b50b5f0135b03cb6e55ba505acb", func := "homehub/homehublaw24.MsgDecodes", spec := "msgDecodes", unfollowed := true, recurses := true, apart := false }
def MsgDecodesSaid : Prop := msgDecodesRow.holds Try.pinned (OpenSpec.ofChange msgDecodesSpec)

/-- ITS FALSE NEIGHBOUR: 'it returns false'. Refute it at one input. -/
def msgDecodesWrong : ChangeSpec := { name := "msgDecodes", fn := fun _ => fun
  | [d] => { results := [.lit (.bool false)], args := [d] }
  | _ => none }
def MsgDecodesWrongFalsely : Prop := msgDecodesRow.holds Try.pinned (OpenSpec.ofChange msgDecodesWrong)

/-- 'homehublaw24.MsgReturns': WHATEVER THE INPUT: true; the input reads as it did. -/
def msgReturnsSpec : ChangeSpec := { name := "msgReturns", fn := fun _ => fun
  | [d] => { results := [.lit (.bool true)], args := [d] }
  | _ => none }
def msgReturnsRow : OpenClaim := { program := "ytnnlaccdendkpaa", sum := "79d6fb4bc86e3408043c55f3a2791aa898770b50b5f0135b03cb6e55ba505acb", func := "homehub/homehublaw24.MsgReturns", spec := "msgReturns", unfollowed := true, recurses := true, apart := false }
def MsgReturnsSaid : Prop := msgReturnsRow.holds Try.pinned (OpenSpec.ofChange msgReturnsSpec)

/-- ITS FALSE NEIGHBOUR: 'it returns false'. Refute it at one input. -/
def msgReturnsWrong : ChangeSpec := { name := "msgReturns", fn := fun _ => fun
  | [d] => { results := [.lit (.bool false)], args := [d] }
  | _ => none }
def MsgReturnsWrongFalsely : Prop := msgReturnsRow.holds Try.pinned (OpenSpec.ofChange msgReturnsWrong)

/-- 'homehublaw24.MsgCanonical': WHATEVER THE INPUT: true; the input reads as it did. -/
def msgCanonicalSpec : ChangeSpec := { name := "msgCanonical", fn := fun _ => fun
  | [d1, d2] => { results := [.lit (.bool true)], args := [d1, d2] }
  | _ => none }
def msgCanonicalRow : OpenClaim := { program := "ytnnlaccdendkpaa", sum := "79d6fb4bc86e3408043c55f3a2791aa898770b50b5f0135b03cb6e55ba505acb", func := "homehub/homehublaw24.MsgCanonical", spec := "msgCanonical", unfollowed := true, recurses := true, apart := false }
def MsgCanonicalSaid : Prop := msgCanonicalRow.holds Try.pinned (OpenSpec.ofChange msgCanonicalSpec)

/-- ITS FALSE NEIGHBOUR: 'it returns false'. Refute it at one input. -/
def msgCanonicalWrong : ChangeSpec := { name := "msgCanonical", fn := fun _ => fun
  | [d1, d2] => { results := [.lit (.bool false)], args := [d1, d2] }
  | _ => none }
def MsgCanonicalWrongFalsely : Prop := msgCanonicalRow.holds Try.pinned (OpenSpec.ofChange msgCanonicalWrong)

/-- 'homehublaw24.MsgSafe': WHATEVER THE INPUT: true; the input reads as it did. -/
def msgSafeSpec : ChangeSpec := { name := "msgSafe", fn := fun _ => fun
  | [d1, d2, d3] => { results := [.lit (.bool true)], args := [d1, d2, d3] }
  | _ => none }
def msgSafeRow : OpenClaim := { program := "ytnnlaccdendkpaa", sum := "79d6fb4bc86e3408043c55f3a2791aa898770b50b5f0135b03cb6e55ba505acb", func := "homehub/homehublaw24.MsgSafe", spec := "msgSafe", unfollowed := true, recurses := true, apart := false }
def MsgSafeSaid : Prop := msgSafeRow.holds Try.pinned (OpenSpec.ofChange msgSafeSpec)

/-- ITS FALSE NEIGHBOUR: 'it returns false'. Refute it at one input. -/
def msgSafeWrong : ChangeSpec := { name := "msgSafe", fn := fun _ => fun
  | [d1, d2, d3] => { results := [.lit (.bool false)], args := [d1, d2, d3] }
  | _ => none }
def MsgSafeWrongFalsely : Prop := msgSafeRow.holds Try.pinned (OpenSpec.ofChange msgSafeWrong)

/- THE SECOND FORM. 'bulk': how many values and letters a reading holds, each counted each time it is reached (what is shared counts as often as it is met; a slice's spare places count too). A statement '..UptoSaid' is the law's where the arguments, and the package variables that the reading takes, are together of bulk at most 1048576: NARROWER than '..Said'. Prove '..Said' where nothing that the law and all that it calls make is longer than what came in: it says more and counts as full. Else prove '..UptoSaid'. A law counts once. -/
mutual
def uptoBulk {H : Type} : DataW H → Nat
  | .lit (.string bytes) => bytes.length + 1
  | .lit _ => 1
  | .nil => 1
  | .ptr d => uptoBulk d + 1
  | .slice elems spare => uptoBulkAll elems + uptoBulkAll spare + 1
  | .agg parts => uptoBulkAll parts + 1
  | .iface _ d => uptoBulk d + 1
  | .map entries => uptoBulkEntries entries + 1
  | .held _ => 1
def uptoBulkAll {H : Type} : List (DataW H) → Nat
  | [] => 0
  | d :: r => uptoBulk d + uptoBulkAll r
def uptoBulkEntries {H : Type} : List (Lit × DataW H) → Nat
  | [] => 0
  | x :: r => uptoBulkEntry x + uptoBulkEntries r
def uptoBulkEntry {H : Type} : Lit × DataW H → Nat
  | (.string bytes, d) => bytes.length + uptoBulk d + 1
  | (_, d) => uptoBulk d + 1
 end
def uptoSmall : (H : Type) → List (DataW H) → Bool := fun _ ds => decide (uptoBulkAll ds ≤ 1048576)
def OpenSpec.upto (s : _root_.Go.ChangeSpec) : _root_.Go.OpenSpec := { _root_.Go.OpenSpec.ofChange s with cond := some uptoSmall }

/-- 'homehublaw24.MsgChecks', WHERE WHAT IT READS IS OF BULK AT MOST 1048576: true; the input reads as it did. -/
def msgChecksUptoRow : OpenClaim := { program := "ytnnlaccdendkpaa", sum := "79d6fb4bc86e3408043c55f3a2791aa898770b50b5f0135b03cb6e55ba505acb", func := "homehub/homehublaw24.MsgChecks", spec := "msgChecks", unfollowed := true, recurses := true, apart := false, narrowed := true }
def MsgChecksUptoSaid : Prop := msgChecksUptoRow.holds Try.pinned (OpenSpec.upto msgChecksSpec)

/-- 'homehublaw24.MsgEncodes', WHERE WHAT IT READS IS OF BULK AT MOST 1048576: true; the input reads as it did. -/
def msgEncodesUptoRow : OpenClaim := { program := "ytnnlaccdendkpaa", sum := "79d6fb4bc86e3408043c55f3a2791aa898770b50b5f0135b03cb6e55ba505acb", func := "homehub/homehublaw24.MsgEncodes", spec := "msgEncodes", unfollowed := true, recurses := true, apart := false, narrowed := true }
def MsgEncodesUptoSaid : Prop := msgEncodesUptoRow.holds Try.pinned (OpenSpec.upto msgEncodesSpec)

/-- 'homehublaw24.MsgDecodes', WHERE WHAT IT READS IS OF BULK AT MOST 1048576: true; the input reads as it did. -/
def msgDecodesUptoRow : OpenClaim := { program := "ytnnlaccdendkpaa", sum := "79d6fb4bc86e3408043c55f3a2791aa898770b50b5f0135b03cb6e55ba505acb", func := "homehub/homehublaw24.MsgDecodes", spec := "msgDecodes", unfollowed := true, recurses := true, apart := false, narrowed := true }
def MsgDecodesUptoSaid : Prop := msgDecodesUptoRow.holds Try.pinned (OpenSpec.upto msgDecodesSpec)

/-- 'homehublaw24.MsgReturns', WHERE WHAT IT READS IS OF BULK AT MOST 1048576: true; the input reads as it did. -/
def msgReturnsUptoRow : OpenClaim := { program := "ytnnlaccdendkpaa", sum := "79d6fb4bc86e3408043c55f3a2791aa898770b50b5f0135b03cb6e55ba505acb", func := "homehub/homehublaw24.MsgReturns", spec := "msgReturns", unfollowed := true, recurses := true, apart := false, narrowed := true }
def MsgReturnsUptoSaid : Prop := msgReturnsUptoRow.holds Try.pinned (OpenSpec.upto msgReturnsSpec)

/-- 'homehublaw24.MsgCanonical', WHERE WHAT IT READS IS OF BULK AT MOST 1048576: true; the input reads as it did. -/
def msgCanonicalUptoRow : OpenClaim := { program := "ytnnlaccdendkpaa", sum := "79d6fb4bc86e3408043c55f3a2791aa898770b50b5f0135b03cb6e55ba505acb", func := "homehub/homehublaw24.MsgCanonical", spec := "msgCanonical", unfollowed := true, recurses := true, apart := false, narrowed := true }
def MsgCanonicalUptoSaid : Prop := msgCanonicalUptoRow.holds Try.pinned (OpenSpec.upto msgCanonicalSpec)

/-- 'homehublaw24.MsgSafe', WHERE WHAT IT READS IS OF BULK AT MOST 1048576: true; the input reads as it did. -/
def msgSafeUptoRow : OpenClaim := { program := "ytnnlaccdendkpaa", sum := "79d6fb4bc86e3408043c55f3a2791aa898770b50b5f0135b03cb6e55ba505acb", func := "homehub/homehublaw24.MsgSafe", spec := "msgSafe", unfollowed := true, recurses := true, apart := false, narrowed := true }
def MsgSafeUptoSaid : Prop := msgSafeUptoRow.holds Try.pinned (OpenSpec.upto msgSafeSpec)

end Rows
end Go.Proofs.Ytnnlaccdendkpaa
