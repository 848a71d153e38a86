/-
  No cell of these rows narrows 'for every input' (looked for: loops, veiled, ifaces, maps, wideKeys, modest, calm, conditions, laid).
  DERIVED. THE GIVEN ROWS OF THIS SEAT. 5 by the template 'for every input the law returns true; each argument reads behind the call as it read before'; 0 by the template 'total and deterministic' (their statements: YtjgpnceaicijcaaTotals.lean).
  GIVEN WITH THE SEED: the statements are not yours to turn. If you find one false, say at which input.
  Laid BY PROGRAM, IN A SANDBOX (cutbox-rows.mjs): the forced cells as the released guide's own fill.sh prints them over the translation 065168a6d3f20863… (all of the seat's roots in one cut). By AI agents, Wed Nov 11 2026. No macro, syntax, notation, axiom, sorry.
-/
import Derived.Test.YtjgpnceaicijcaaChecked
import GoSem.Claim
import GoSem.ClaimJoined
import GoSem.ClaimMapViews
import Derived.JoinedTies
import Derived.KernelRfl
namespace Go.Proofs.Ytjgpnceaicijcaa
/- THE CELL 'sum', in the pinned program and in every row, IS THE sha256 OF THE DUMP (.gsa) THAT YtjgpnceaicijcaaProg.lean LOADS. Nothing in Lean hashes anything: it is a label: what it is worth is what the hold of that sum in a sandbox is worth. -/
noncomputable def Try.pinned : Pinned := { name := "ytjgpnceaicijcaa", sum := "065168a6d3f208636e6eb9aa59dddf3a4910af30361923a0a8f591447da7d1ab", checked := Try.checked }
namespace Rows
def none {H : Type} : Left H := { results := [], args := [] }

/-- 'homehublaw51.RolloutPlans': WHATEVER THE INPUT: true; the input reads as it did. -/
def rolloutPlansSpec : ChangeSpec := { name := "rolloutPlans", fn := fun _ => fun
  | [d1, d2, d3] => { results := [.lit (.bool true)], args := [d1, d2, d3] }
  | _ => none }
def rolloutPlansRow : OpenClaim := { program := "ytjgpnceaicijcaa", sum := "065168a6d3f208636e6eb9aa59dddf3a4910af30361923a0a8f591447da7d1ab", func := "homehub/homehublaw51.RolloutPlans", spec := "rolloutPlans", unfollowed := true, recurses := true, apart := false }
def RolloutPlansSaid : Prop := rolloutPlansRow.holds Try.pinned (OpenSpec.ofChange rolloutPlansSpec)

/-- ITS FALSE NEIGHBOUR: 'it returns false'. Refute it at one input. -/
def rolloutPlansWrong : ChangeSpec := { name := "rolloutPlans", fn := fun _ => fun
  | [d1, d2, d3] => { results := [.lit (.bool false)], args := [d1, d2, d3] }
  | _ => none }
def RolloutPlansWrongFalsely : Prop := rolloutPlansRow.holds Try.pinned (OpenSpec.ofChange rolloutPlansWrong)

/-- 'homehublaw51.RolloutAsks': WHATEVER THE INPUT: true; the input reads as it did. -/
def rolloutAsksSpec : ChangeSpec := { name := "rolloutAsks", fn := fun _ => fun
  | [d1, d2] => { results := [.lit (.bool true)], args := [d1, d2] }
  | _ => none }
def rolloutAsksRow : OpenClaim := { program := "ytjgpnceaicijcaa", sum := "065168a6d3f208636e6eb9aa59dddf3a4910af30361923a0a8f591447da7d1ab", func := "homehub/homehublaw51.RolloutAsks", spec := "rolloutAsks", unfollowed := true, recurses := true, apart := false }
def RolloutAsksSaid : Prop := rolloutAsksRow.holds Try.pinned (OpenSpec.ofChange rolloutAsksSpec)

/-- ITS FALSE NEIGHBOUR: 'it returns false'. Refute it at one input. -/
def rolloutAsksWrong : ChangeSpec := { name := "rolloutAsks", fn := fun _ => fun
  | [d1, d2] => { results := [.lit (.bool false)], args := [d1, d2] }
  | _ => none }
def RolloutAsksWrongFalsely : Prop := rolloutAsksRow.holds Try.pinned (OpenSpec.ofChange rolloutAsksWrong)

/-- 'homehublaw51.RolloutEnds': WHATEVER THE INPUT: true; the input reads as it did. -/
def rolloutEndsSpec : ChangeSpec := { name := "rolloutEnds", fn := fun _ => fun
  | [d1, d2, d3, d4] => { results := [.lit (.bool true)], args := [d1, d2, d3, d4] }
  | _ => none }
def rolloutEndsRow : OpenClaim := { program := "ytjgpnceaicijcaa", sum := "065168a6d3f208636e6eb9aa59dddf3a4910af30361923a0a8f591447da7d1ab", func := "homehub/homehublaw51.RolloutEnds", spec := "rolloutEnds", unfollowed := true, recurses := true, apart := false }
def RolloutEndsSaid : Prop := rolloutEndsRow.holds Try.pinned (OpenSpec.ofChange rolloutEndsSpec)

/-- ITS FALSE NEIGHBOUR: 'it returns false'. Refute it at one input. -/
def rolloutEndsWrong : ChangeSpec := { name := "rolloutEnds", fn := fun _ => fun
  | [d1, d2, d3, d4] => { results := [.lit (.bool false)], args := [d1, d2, d3, d4] }
  | _ => none }
def RolloutEndsWrongFalsely : Prop := rolloutEndsRow.holds Try.pinned (OpenSpec.ofChange rolloutEndsWrong)

/-- 'homehublaw51.RolloutSteps': WHATEVER THE INPUT: true; the input reads as it did. -/
def rolloutStepsSpec : ChangeSpec := { name := "rolloutSteps", fn := fun _ => fun
  | [d1, d2, d3] => { results := [.lit (.bool true)], args := [d1, d2, d3] }
  | _ => none }
def rolloutStepsRow : OpenClaim := { program := "ytjgpnceaicijcaa", sum := "065168a6d3f208636e6eb9aa59dddf3a4910af30361923a0a8f591447da7d1ab", func := "homehub/homehublaw51.RolloutSteps", spec := "rolloutSteps", unfollowed := true, recurses := true, apart := false }
def RolloutStepsSaid : Prop := rolloutStepsRow.holds Try.pinned (OpenSpec.ofChange rolloutStepsSpec)

/-- ITS FALSE NEIGHBOUR: 'it returns false'. Refute it at one input. -/
def rolloutStepsWrong : ChangeSpec := { name := "rolloutSteps", fn := fun _ => fun
  | [d1, d2, d3] => { results := [.lit (.bool false)], args := [d1, d2, d3] }
  | _ => none }
def RolloutStepsWrongFalsely : Prop := rolloutStepsRow.holds Try.pinned (OpenSpec.ofChange rolloutStepsWrong)

/-- 'homehublaw51.RolloutWaves': WHATEVER THE INPUT: true; the input reads as it did. -/
def rolloutWavesSpec : ChangeSpec := { name := "rolloutWaves", fn := fun _ => fun
  | [d1, d2, d3, d4] => { results := [.lit (.bool true)], args := [d1, d2, d3, d4] }
  | _ => none }
def rolloutWavesRow : OpenClaim := { program := "ytjgpnceaicijcaa", sum := "065168a6d3f208636e6eb9aa59dddf3a4910af30361923a0a8f591447da7d1ab", func := "homehub/homehublaw51.RolloutWaves", spec := "rolloutWaves", unfollowed := true, recurses := true, apart := false }
def RolloutWavesSaid : Prop := rolloutWavesRow.holds Try.pinned (OpenSpec.ofChange rolloutWavesSpec)

/-- ITS FALSE NEIGHBOUR: 'it returns false'. Refute it at one input. -/
def rolloutWavesWrong : ChangeSpec := { name := "rolloutWaves", fn := fun _ => fun
  | [d1, d2, d3, d4] => { results := [.lit (.bool false)], args := [d1, d2, d3, d4] }
  | _ => none }
def RolloutWavesWrongFalsely : Prop := rolloutWavesRow.holds Try.pinned (OpenSpec.ofChange rolloutWavesWrong)

/- THE SECOND FORM. 'bulk': how many values and letters a reading holds, each counted each time it is reached (what is shared counts as often as it is met; a slice's spare places count too). A statement '..UptoSaid' is the law's where the arguments, and the package variables that the reading takes, are together of bulk at most 1048576: NARROWER than '..Said'. Prove '..Said' where nothing that the law and all that it calls make is longer than what came in: it says more and counts as full. Else prove '..UptoSaid'. A law counts once. -/
mutual
def uptoBulk {H : Type} : DataW H → Nat
  | .lit (.string bytes) => bytes.length + 1
  | .lit _ => 1
  | .nil => 1
  | .ptr d => uptoBulk d + 1
  | .slice elems spare => uptoBulkAll elems + uptoBulkAll spare + 1
  | .agg parts => uptoBulkAll parts + 1
  | .iface _ d => uptoBulk d + 1
  | .map entries => uptoBulkEntries entries + 1
  | .held _ => 1
def uptoBulkAll {H : Type} : List (DataW H) → Nat
  | [] => 0
  | d :: r => uptoBulk d + uptoBulkAll r
def uptoBulkEntries {H : Type} : List (Lit × DataW H) → Nat
  | [] => 0
  | x :: r => uptoBulkEntry x + uptoBulkEntries r
def uptoBulkEntry {H : Type} : Lit × DataW H → Nat
  | (.string bytes, d) => bytes.length + uptoBulk d + 1
  | (_, d) => uptoBulk d + 1
 end
def uptoSmall : (H : Type) → List (DataW H) → Bool := fun _ ds => decide (uptoBulkAll ds ≤ 1048576)
def OpenSpec.upto (s : _root_.Go.ChangeSpec) : _root_.Go.OpenSpec := { _root_.Go.OpenSpec.ofChange s with cond := some uptoSmall }

/-- 'homehublaw51.RolloutPlans', WHERE WHAT IT READS IS OF BULK AT MOST 1048576: true; the input reads as it did. -/
def rolloutPlansUptoRow : OpenClaim := { program := "ytjgpnceaicijcaa", sum := "065168a6d3f208636e6eb9aa59dddf3a4910af30361923a0a8f591447da7d1ab", func := "homehub/homehublaw51.RolloutPlans", spec := "rolloutPlans", unfollowed := true, recurses := true, apart := false, narrowed := true }
def RolloutPlansUptoSaid : Prop := rolloutPlansUptoRow.holds Try.pinned (OpenSpec.upto rolloutPlansSpec)

/-- 'homehublaw51.RolloutAsks', WHERE WHAT IT READS IS OF BULK AT MOST 1048576: true; the input reads as it did. -/
def rolloutAsksUptoRow : OpenClaim := { program := "ytjgpnceaicijcaa", sum := "065168a6d3f208636e6eb9aa59dddf3a4910af30361923a0a8f591447da7d1ab", func := "homehub/homehublaw51.RolloutAsks", spec := "rolloutAsks", unfollowed := true, recurses := true, apart := false, narrowed := true }
def RolloutAsksUptoSaid : Prop := rolloutAsksUptoRow.holds Try.pinned (OpenSpec.upto rolloutAsksSpec)

/-- 'homehublaw51.RolloutEnds', WHERE WHAT IT READS IS OF BULK AT MOST 1048576: true; the input reads as it did. -/
def rolloutEndsUptoRow : OpenClaim := { program := "ytjgpnceaicijcaa", sum := "065168a6d3f208636e6eb9aa59dddf3a4910af30361923a0a8f591447da7d1ab", func := "homehub/homehublaw51.RolloutEnds", spec := "rolloutEnds", unfollowed := true, recurses := true, apart := false, narrowed := true }
def RolloutEndsUptoSaid : Prop := rolloutEndsUptoRow.holds Try.pinned (OpenSpec.upto rolloutEndsSpec)

/-- 'homehublaw51.RolloutSteps', WHERE WHAT IT READS IS OF BULK AT MOST 1048576: true; the input reads as it did. -/
def rolloutStepsUptoRow : OpenClaim := { program := "ytjgpnceaicijcaa", sum := "065168a6d3f208636e6eb9aa59dddf3a4910af30361923a0a8f591447da7d1ab", func := "homehub/homehublaw51.RolloutSteps", spec := "rolloutSteps", unfollowed := true, recurses := true, apart := false, narrowed := true }
def RolloutStepsUptoSaid : Prop := rolloutStepsUptoRow.holds Try.pinned (OpenSpec.upto rolloutStepsSpec)

/-- 'homehublaw51.RolloutWaves', WHERE WHAT IT READS IS OF BULK AT MOST 1048576: true; the input reads as it did. -/
def rolloutWavesUptoRow : OpenClaim := { program := "ytjgpnceaicijcaa", sum := "065168a6d3f208636e6eb9aa59dddf3a4910af30361923a0a8f591447da7d1ab", func := "homehub/homehublaw51.RolloutWaves", spec := "rolloutWaves", unfollowed := true, recurses := true, apart := false, narrowed := true }
def RolloutWavesUptoSaid : Prop := rolloutWavesUptoRow.holds Try.pinned (OpenSpec.upto rolloutWavesSpec)

end Rows
end Go.Proofs.Ytjgpnceaicijcaa
