/-
  NARROWER THAN 'FOR EVERY INPUT', by the rows' own cells (each row's printed sentence says how): ScriptPrints: laid · ScriptParses: laid · ScriptTexts: laid · RemoteChecks: laid · RemoteBytes: laid · RemoteAdmits: loops, laid · RemoteBack: laid · RemoteOnce: loops, laid · RemoteOthers: loops, laid · RemoteWrites: loops, laid.
  DERIVED. THE GIVEN ROWS OF THIS SEAT. 10 by the template 'for every input the law returns true; each argument reads behind the call as it read before'; 0 by the template 'total and deterministic' (their statements: YtmkpmgfieagphaaGreatDoorTotals.lean).
  GIVEN WITH THE SEED: the statements are not yours to turn. If you find one false, say at which input.
  Laid BY PROGRAM, IN A SANDBOX (cutbox-rows.mjs): the forced cells as the released guide's own fill.sh prints them over the translation 06a86db1f7f2274a… (all of the seat's roots in one cut). By AI agents, Wed Nov 11 2026. No macro, syntax, notation, axiom, sorry.
-/
import Derived.Test.YtmkpmgfieagphaaGreatDoorChecked
import GoSem.Claim
import GoSem.ClaimJoined
import GoSem.ClaimMapViews
import Derived.JoinedTies
import Derived.KernelRfl
namespace Go.Proofs.YtmkpmgfieagphaaGreatDoor
/- THE CELL 'sum', in the pinned program and in every row, IS THE sha256 OF THE DUMP (.gsa) THAT YtmkpmgfieagphaaGreatDoorProg.lean LOADS. Nothing in Lean hashes anything: it is a label: what it is worth is what the hold of that sum in a sandbox is worth. -/
noncomputable def Tryz.pinned : Pinned := { name := "ytmkpmgfieagphaagreatdoor", sum := "06a86db1f7f2274a8370a3125b8b527d2181adbbbae109a89b67d4ebd04a5308", checked := Tryz.checked }
namespace Rows
def none {H : Type} : Left H := { results := [], args := [] }

/- WHAT THE LISTED PACKAGE-LEVEL VARIABLES READ AS WHEN THE CALL BEGINS. Each datum BY PROGRAM (the guide's laid-datum.mjs) off the statement by which the dump's own 'gosem.cut.vars' lays the variable. In a bare row this is a premise. The card (YtmkpmgfieagphaaGreatDoorCards.lean) ties it to the program's text. -/
def laid_math_bits_deBruijn32tab {H : Type} : DataW H := .agg [.lit (.int .u8 0), .lit (.int .u8 1), .lit (.int .u8 28), .lit (.int .u8 2), .lit (.int .u8 29), .lit (.int .u8 14), .lit (.int .u8 24), .lit (.int .u8 3), .lit (.int .u8 30), .lit (.int .u8 22), .lit (.int .u8 20), .lit (.int .u8 15), .lit (.int .u8 25), .lit (.int .u8 17), .lit (.int .u8 4), .lit (.int .u8 8), .lit (.int .u8 31), .lit (.int .u8 27), .lit (.int .u8 13), .lit (.int .u8 23), .lit (.int .u8 21), .lit (.int .u8 19), .lit (.int .u8 16), .lit (.int .u8 7), .lit (.int .u8 26), .lit (.int .u8 12), .lit (.int .u8 18), .lit (.int .u8 6), .lit (.int .u8 11), .lit (.int .u8 5), .lit (.int .u8 10), .lit (.int .u8 9)]
def laid_math_bits_deBruijn64tab {H : Type} : DataW H := .agg [.lit (.int .u8 0), .lit (.int .u8 1), .lit (.int .u8 56), .lit (.int .u8 2), .lit (.int .u8 57), .lit (.int .u8 49), .lit (.int .u8 28), .lit (.int .u8 3), .lit (.int .u8 61), .lit (.int .u8 58), .lit (.int .u8 42), .lit (.int .u8 50), .lit (.int .u8 38), .lit (.int .u8 29), .lit (.int .u8 17), .lit (.int .u8 4), .lit (.int .u8 62), .lit (.int .u8 47), .lit (.int .u8 59), .lit (.int .u8 36), .lit (.int .u8 45), .lit (.int .u8 43), .lit (.int .u8 51), .lit (.int .u8 22), .lit (.int .u8 53), .lit (.int .u8 39), .lit (.int .u8 33), .lit (.int .u8 30), .lit (.int .u8 24), .lit (.int .u8 18), .lit (.int .u8 12), .lit (.int .u8 5), .lit (.int .u8 63), .lit (.int .u8 55), .lit (.int .u8 48), .lit (.int .u8 27), .lit (.int .u8 60), .lit (.int .u8 41), .lit (.int .u8 37), .lit (.int .u8 16), .lit (.int .u8 46), .lit (.int .u8 35), .lit (.int .u8 44), .lit (.int .u8 21), .lit (.int .u8 52), .lit (.int .u8 32), .lit (.int .u8 23), .lit (.int .u8 11), .lit (.int .u8 54), .lit (.int .u8 26), .lit (.int .u8 40), .lit (.int .u8 15), .lit (.int .u8 34), .lit (.int .u8 20), .lit (.int .u8 31), .lit (.int .u8 10), .lit (.int .u8 25), .lit (.int .u8 14), .lit (.int .u8 19), .lit (.int .u8 9), .lit (.int .u8 13), .lit (.int .u8 8), .lit (.int .u8 7), .lit (.int .u8 6)]
def laid_internal_strconv_uint64pow10 {H : Type} : DataW H := .agg [.lit (.int .u64 1), .lit (.int .u64 10), .lit (.int .u64 100), .lit (.int .u64 1000), .lit (.int .u64 10000), .lit (.int .u64 100000), .lit (.int .u64 1000000), .lit (.int .u64 10000000), .lit (.int .u64 100000000), .lit (.int .u64 1000000000), .lit (.int .u64 10000000000), .lit (.int .u64 100000000000), .lit (.int .u64 1000000000000), .lit (.int .u64 10000000000000), .lit (.int .u64 100000000000000), .lit (.int .u64 1000000000000000), .lit (.int .u64 10000000000000000), .lit (.int .u64 100000000000000000), .lit (.int .u64 1000000000000000000), .lit (.int .u64 10000000000000000000)]
def laid_homehub_cluster_standard {H : Type} : DataW H := .agg [.lit (.string [111, 110, 111, 102, 102]), .lit (.string [108, 101, 118, 101, 108]), .lit (.string [108, 111, 99, 107]), .lit (.string [116, 104, 101, 114, 109, 111, 115, 116, 97, 116]), .lit (.string [115, 109, 111, 107, 101]), .lit (.string [108, 101, 97, 107]), .lit (.string [118, 97, 108, 118, 101]), .lit (.string [109, 101, 116, 101, 114])]

/-- 'homehublaw58.ScriptPrints': WHATEVER THE INPUT: true; the input reads as it did. -/
def scriptPrintsSpec : ChangeSpec := { name := "scriptPrints", fn := fun _ => fun
  | [d] => { results := [.lit (.bool true)], args := [d] }
  | _ => none }
def scriptPrintsRow : OpenClaim := { program := "ytmkpmgfieagphaagreatdoor", sum := "06a86db1f7f2274a8370a3125b8b527d2181adbbbae109a89b67d4ebd04a5308", func := "homehub/homehublaw58.ScriptPrints", spec := "scriptPrints", inPlace := ["internal/abi.NoEscape", "internal/bytealg.IndexByteString", "internal/bytealg.IndexString"], unfollowed := true, recurses := true, named := ["internal/strconv.uint64pow10", "math/bits.deBruijn32tab", "math/bits.deBruijn64tab", "internal/bytealg.MaxLen"], apart := false, laid := [("math/bits.deBruijn32tab", laid_math_bits_deBruijn32tab), ("math/bits.deBruijn64tab", laid_math_bits_deBruijn64tab), ("internal/strconv.uint64pow10", laid_internal_strconv_uint64pow10)] }
def ScriptPrintsSaid : Prop := scriptPrintsRow.holds Tryz.pinned (OpenSpec.ofChange scriptPrintsSpec)

/-- ITS FALSE NEIGHBOUR: 'it returns false'. Refute it at one input. -/
def scriptPrintsWrong : ChangeSpec := { name := "scriptPrints", fn := fun _ => fun
  | [d] => { results := [.lit (.bool false)], args := [d] }
  | _ => none }
def ScriptPrintsWrongFalsely : Prop := scriptPrintsRow.holds Tryz.pinned (OpenSpec.ofChange scriptPrintsWrong)

/-- 'homehublaw58.ScriptParses': WHATEVER THE INPUT: true; the input reads as it did. -/
def scriptParsesSpec : ChangeSpec := { name := "scriptParses", fn := fun _ => fun
  | [d] => { results := [.lit (.bool true)], args := [d] }
  | _ => none }
def scriptParsesRow : OpenClaim := { program := "ytmkpmgfieagphaagreatdoor", sum := "06a86db1f7f2274a8370a3125b8b527d2181adbbbae109a89b67d4ebd04a5308", func := "homehub/homehublaw58.ScriptParses", spec := "scriptParses", inPlace := ["internal/abi.NoEscape", "internal/bytealg.IndexByteString", "internal/bytealg.IndexString"], unfollowed := true, recurses := true, named := ["internal/strconv.uint64pow10", "math/bits.deBruijn32tab", "math/bits.deBruijn64tab", "internal/bytealg.MaxLen"], apart := false, laid := [("math/bits.deBruijn32tab", laid_math_bits_deBruijn32tab), ("math/bits.deBruijn64tab", laid_math_bits_deBruijn64tab), ("internal/strconv.uint64pow10", laid_internal_strconv_uint64pow10)] }
def ScriptParsesSaid : Prop := scriptParsesRow.holds Tryz.pinned (OpenSpec.ofChange scriptParsesSpec)

/-- ITS FALSE NEIGHBOUR: 'it returns false'. Refute it at one input. -/
def scriptParsesWrong : ChangeSpec := { name := "scriptParses", fn := fun _ => fun
  | [d] => { results := [.lit (.bool false)], args := [d] }
  | _ => none }
def ScriptParsesWrongFalsely : Prop := scriptParsesRow.holds Tryz.pinned (OpenSpec.ofChange scriptParsesWrong)

/-- 'homehublaw58.ScriptTexts': WHATEVER THE INPUT: true; the input reads as it did. -/
def scriptTextsSpec : ChangeSpec := { name := "scriptTexts", fn := fun _ => fun
  | [d1, d2] => { results := [.lit (.bool true)], args := [d1, d2] }
  | _ => none }
def scriptTextsRow : OpenClaim := { program := "ytmkpmgfieagphaagreatdoor", sum := "06a86db1f7f2274a8370a3125b8b527d2181adbbbae109a89b67d4ebd04a5308", func := "homehub/homehublaw58.ScriptTexts", spec := "scriptTexts", inPlace := ["internal/abi.NoEscape", "internal/bytealg.IndexByteString", "internal/bytealg.IndexString"], unfollowed := true, recurses := true, named := ["internal/strconv.uint64pow10", "math/bits.deBruijn32tab", "math/bits.deBruijn64tab", "internal/bytealg.MaxLen"], apart := false, laid := [("math/bits.deBruijn32tab", laid_math_bits_deBruijn32tab), ("math/bits.deBruijn64tab", laid_math_bits_deBruijn64tab), ("internal/strconv.uint64pow10", laid_internal_strconv_uint64pow10)] }
def ScriptTextsSaid : Prop := scriptTextsRow.holds Tryz.pinned (OpenSpec.ofChange scriptTextsSpec)

/-- ITS FALSE NEIGHBOUR: 'it returns false'. Refute it at one input. -/
def scriptTextsWrong : ChangeSpec := { name := "scriptTexts", fn := fun _ => fun
  | [d1, d2] => { results := [.lit (.bool false)], args := [d1, d2] }
  | _ => none }
def ScriptTextsWrongFalsely : Prop := scriptTextsRow.holds Tryz.pinned (OpenSpec.ofChange scriptTextsWrong)

/-- 'homehublaw49.RemoteChecks': WHATEVER THE INPUT: true; the input reads as it did. -/
def remoteChecksSpec : ChangeSpec := { name := "remoteChecks", fn := fun _ => fun
  | [d1, d2] => { results := [.lit (.bool true)], args := [d1, d2] }
  | _ => none }
def remoteChecksRow : OpenClaim := { program := "ytmkpmgfieagphaagreatdoor", sum := "06a86db1f7f2274a8370a3125b8b527d2181adbbbae109a89b67d4ebd04a5308", func := "homehub/homehublaw49.RemoteChecks", spec := "remoteChecks", inPlace := ["slices.overlaps[homehub/api.Guest]"], unfollowed := true, recurses := true, named := ["homehub/cluster.standard"], apart := false, laid := [("homehub/cluster.standard", laid_homehub_cluster_standard)] }
def RemoteChecksSaid : Prop := remoteChecksRow.holds Tryz.pinned (OpenSpec.ofChange remoteChecksSpec)

/-- ITS FALSE NEIGHBOUR: 'it returns false'. Refute it at one input. -/
def remoteChecksWrong : ChangeSpec := { name := "remoteChecks", fn := fun _ => fun
  | [d1, d2] => { results := [.lit (.bool false)], args := [d1, d2] }
  | _ => none }
def RemoteChecksWrongFalsely : Prop := remoteChecksRow.holds Tryz.pinned (OpenSpec.ofChange remoteChecksWrong)

/-- 'homehublaw49.RemoteBytes': WHATEVER THE INPUT: true; the input reads as it did. -/
def remoteBytesSpec : ChangeSpec := { name := "remoteBytes", fn := fun _ => fun
  | [d1, d2] => { results := [.lit (.bool true)], args := [d1, d2] }
  | _ => none }
def remoteBytesRow : OpenClaim := { program := "ytmkpmgfieagphaagreatdoor", sum := "06a86db1f7f2274a8370a3125b8b527d2181adbbbae109a89b67d4ebd04a5308", func := "homehub/homehublaw49.RemoteBytes", spec := "remoteBytes", inPlace := ["slices.overlaps[homehub/api.Guest]"], unfollowed := true, recurses := true, named := ["homehub/cluster.standard"], apart := false, laid := [("homehub/cluster.standard", laid_homehub_cluster_standard)] }
def RemoteBytesSaid : Prop := remoteBytesRow.holds Tryz.pinned (OpenSpec.ofChange remoteBytesSpec)

/-- ITS FALSE NEIGHBOUR: 'it returns false'. Refute it at one input. -/
def remoteBytesWrong : ChangeSpec := { name := "remoteBytes", fn := fun _ => fun
  | [d1, d2] => { results := [.lit (.bool false)], args := [d1, d2] }
  | _ => none }
def RemoteBytesWrongFalsely : Prop := remoteBytesRow.holds Tryz.pinned (OpenSpec.ofChange remoteBytesWrong)

/-- 'homehublaw49.RemoteAdmits': WHATEVER THE INPUT: true; the input reads as it did. -/
def remoteAdmitsSpec : ChangeSpec := { name := "remoteAdmits", fn := fun _ => fun
  | [d] => { results := [.lit (.bool true)], args := [d] }
  | _ => none }
def remoteAdmitsRow : OpenClaim := { program := "ytmkpmgfieagphaagreatdoor", sum := "06a86db1f7f2274a8370a3125b8b527d2181adbbbae109a89b67d4ebd04a5308", func := "homehub/homehublaw49.RemoteAdmits", spec := "remoteAdmits", inPlace := ["slices.overlaps[homehub/api.Guest]"], unfollowed := true, recurses := true, named := ["homehub/cluster.standard"], loops := true, apart := false, laid := [("homehub/cluster.standard", laid_homehub_cluster_standard)] }
def RemoteAdmitsSaid : Prop := remoteAdmitsRow.holds Tryz.pinned (OpenSpec.ofChange remoteAdmitsSpec)

/-- ITS FALSE NEIGHBOUR: 'it returns false'. Refute it at one input. -/
def remoteAdmitsWrong : ChangeSpec := { name := "remoteAdmits", fn := fun _ => fun
  | [d] => { results := [.lit (.bool false)], args := [d] }
  | _ => none }
def RemoteAdmitsWrongFalsely : Prop := remoteAdmitsRow.holds Tryz.pinned (OpenSpec.ofChange remoteAdmitsWrong)

/-- 'homehublaw49.RemoteBack': WHATEVER THE INPUT: true; the input reads as it did. -/
def remoteBackSpec : ChangeSpec := { name := "remoteBack", fn := fun _ => fun
  | [d1, d2, d3] => { results := [.lit (.bool true)], args := [d1, d2, d3] }
  | _ => none }
def remoteBackRow : OpenClaim := { program := "ytmkpmgfieagphaagreatdoor", sum := "06a86db1f7f2274a8370a3125b8b527d2181adbbbae109a89b67d4ebd04a5308", func := "homehub/homehublaw49.RemoteBack", spec := "remoteBack", inPlace := ["slices.overlaps[homehub/api.Guest]"], unfollowed := true, recurses := true, named := ["homehub/cluster.standard"], apart := false, laid := [("homehub/cluster.standard", laid_homehub_cluster_standard)] }
def RemoteBackSaid : Prop := remoteBackRow.holds Tryz.pinned (OpenSpec.ofChange remoteBackSpec)

/-- ITS FALSE NEIGHBOUR: 'it returns false'. Refute it at one input. -/
def remoteBackWrong : ChangeSpec := { name := "remoteBack", fn := fun _ => fun
  | [d1, d2, d3] => { results := [.lit (.bool false)], args := [d1, d2, d3] }
  | _ => none }
def RemoteBackWrongFalsely : Prop := remoteBackRow.holds Tryz.pinned (OpenSpec.ofChange remoteBackWrong)

/-- 'homehublaw49.RemoteOnce': WHATEVER THE INPUT: true; the input reads as it did. -/
def remoteOnceSpec : ChangeSpec := { name := "remoteOnce", fn := fun _ => fun
  | [d1, d2] => { results := [.lit (.bool true)], args := [d1, d2] }
  | _ => none }
def remoteOnceRow : OpenClaim := { program := "ytmkpmgfieagphaagreatdoor", sum := "06a86db1f7f2274a8370a3125b8b527d2181adbbbae109a89b67d4ebd04a5308", func := "homehub/homehublaw49.RemoteOnce", spec := "remoteOnce", inPlace := ["slices.overlaps[homehub/api.Guest]"], unfollowed := true, recurses := true, named := ["homehub/cluster.standard"], loops := true, apart := false, laid := [("homehub/cluster.standard", laid_homehub_cluster_standard)] }
def RemoteOnceSaid : Prop := remoteOnceRow.holds Tryz.pinned (OpenSpec.ofChange remoteOnceSpec)

/-- ITS FALSE NEIGHBOUR: 'it returns false'. Refute it at one input. -/
def remoteOnceWrong : ChangeSpec := { name := "remoteOnce", fn := fun _ => fun
  | [d1, d2] => { results := [.lit (.bool false)], args := [d1, d2] }
  | _ => none }
def RemoteOnceWrongFalsely : Prop := remoteOnceRow.holds Tryz.pinned (OpenSpec.ofChange remoteOnceWrong)

/-- 'homehublaw49.RemoteOthers': WHATEVER THE INPUT: true; the input reads as it did. -/
def remoteOthersSpec : ChangeSpec := { name := "remoteOthers", fn := fun _ => fun
  | [d1, d2] => { results := [.lit (.bool true)], args := [d1, d2] }
  | _ => none }
def remoteOthersRow : OpenClaim := { program := "ytmkpmgfieagphaagreatdoor", sum := "06a86db1f7f2274a8370a3125b8b527d2181adbbbae109a89b67d4ebd04a5308", func := "homehub/homehublaw49.RemoteOthers", spec := "remoteOthers", inPlace := ["slices.overlaps[homehub/api.Guest]"], unfollowed := true, recurses := true, named := ["homehub/cluster.standard"], loops := true, apart := false, laid := [("homehub/cluster.standard", laid_homehub_cluster_standard)] }
def RemoteOthersSaid : Prop := remoteOthersRow.holds Tryz.pinned (OpenSpec.ofChange remoteOthersSpec)

/-- ITS FALSE NEIGHBOUR: 'it returns false'. Refute it at one input. -/
def remoteOthersWrong : ChangeSpec := { name := "remoteOthers", fn := fun _ => fun
  | [d1, d2] => { results := [.lit (.bool false)], args := [d1, d2] }
  | _ => none }
def RemoteOthersWrongFalsely : Prop := remoteOthersRow.holds Tryz.pinned (OpenSpec.ofChange remoteOthersWrong)

/-- 'homehublaw49.RemoteWrites': WHATEVER THE INPUT: true; the input reads as it did. -/
def remoteWritesSpec : ChangeSpec := { name := "remoteWrites", fn := fun _ => fun
  | [d1, d2, d3] => { results := [.lit (.bool true)], args := [d1, d2, d3] }
  | _ => none }
def remoteWritesRow : OpenClaim := { program := "ytmkpmgfieagphaagreatdoor", sum := "06a86db1f7f2274a8370a3125b8b527d2181adbbbae109a89b67d4ebd04a5308", func := "homehub/homehublaw49.RemoteWrites", spec := "remoteWrites", inPlace := ["slices.overlaps[homehub/api.Guest]"], unfollowed := true, recurses := true, named := ["homehub/cluster.standard"], loops := true, apart := false, laid := [("homehub/cluster.standard", laid_homehub_cluster_standard)] }
def RemoteWritesSaid : Prop := remoteWritesRow.holds Tryz.pinned (OpenSpec.ofChange remoteWritesSpec)

/-- ITS FALSE NEIGHBOUR: 'it returns false'. Refute it at one input. -/
def remoteWritesWrong : ChangeSpec := { name := "remoteWrites", fn := fun _ => fun
  | [d1, d2, d3] => { results := [.lit (.bool false)], args := [d1, d2, d3] }
  | _ => none }
def RemoteWritesWrongFalsely : Prop := remoteWritesRow.holds Tryz.pinned (OpenSpec.ofChange remoteWritesWrong)

/- THE SECOND FORM. 'bulk': how many values and letters a reading holds, each counted each time it is reached (what is shared counts as often as it is met; a slice's spare places count too). A statement '..UptoSaid' is the law's where the arguments, and the package variables that the reading takes, are together of bulk at most 1048576: NARROWER than '..Said'. Prove '..Said' where nothing that the law and all that it calls make is longer than what came in: it says more and counts as full. Else prove '..UptoSaid'. A law counts once. -/
mutual
def uptoBulk {H : Type} : DataW H → Nat
  | .lit (.string bytes) => bytes.length + 1
  | .lit _ => 1
  | .nil => 1
  | .ptr d => uptoBulk d + 1
  | .slice elems spare => uptoBulkAll elems + uptoBulkAll spare + 1
  | .agg parts => uptoBulkAll parts + 1
  | .iface _ d => uptoBulk d + 1
  | .map entries => uptoBulkEntries entries + 1
  | .held _ => 1
def uptoBulkAll {H : Type} : List (DataW H) → Nat
  | [] => 0
  | d :: r => uptoBulk d + uptoBulkAll r
def uptoBulkEntries {H : Type} : List (Lit × DataW H) → Nat
  | [] => 0
  | x :: r => uptoBulkEntry x + uptoBulkEntries r
def uptoBulkEntry {H : Type} : Lit × DataW H → Nat
  | (.string bytes, d) => bytes.length + uptoBulk d + 1
  | (_, d) => uptoBulk d + 1
 end
def uptoSmall : (H : Type) → List (DataW H) → Bool := fun _ ds => decide (uptoBulkAll ds ≤ 1048576)
def OpenSpec.upto (s : _root_.Go.ChangeSpec) : _root_.Go.OpenSpec := { _root_.Go.OpenSpec.ofChange s with cond := some uptoSmall }

/-- 'homehublaw58.ScriptPrints', WHERE WHAT IT READS IS OF BULK AT MOST 1048576: true; the input reads as it did. -/
def scriptPrintsUptoRow : OpenClaim := { program := "ytmkpmgfieagphaagreatdoor", sum := "06a86db1f7f2274a8370a3125b8b527d2181adbbbae109a89b67d4ebd04a5308", func := "homehub/homehublaw58.ScriptPrints", spec := "scriptPrints", inPlace := ["internal/abi.NoEscape", "internal/bytealg.IndexByteString", "internal/bytealg.IndexString"], unfollowed := true, recurses := true, named := ["internal/strconv.uint64pow10", "math/bits.deBruijn32tab", "math/bits.deBruijn64tab", "internal/bytealg.MaxLen"], apart := false, laid := [("math/bits.deBruijn32tab", laid_math_bits_deBruijn32tab), ("math/bits.deBruijn64tab", laid_math_bits_deBruijn64tab), ("internal/strconv.uint64pow10", laid_internal_strconv_uint64pow10)], narrowed := true }
def ScriptPrintsUptoSaid : Prop := scriptPrintsUptoRow.holds Tryz.pinned (OpenSpec.upto scriptPrintsSpec)

/-- 'homehublaw58.ScriptParses', WHERE WHAT IT READS IS OF BULK AT MOST 1048576: true; the input reads as it did. -/
def scriptParsesUptoRow : OpenClaim := { program := "ytmkpmgfieagphaagreatdoor", sum := "06a86db1f7f2274a8370a3125b8b527d2181adbbbae109a89b67d4ebd04a5308", func := "homehub/homehublaw58.ScriptParses", spec := "scriptParses", inPlace := ["internal/abi.NoEscape", "internal/bytealg.IndexByteString", "internal/bytealg.IndexString"], unfollowed := true, recurses := true, named := ["internal/strconv.uint64pow10", "math/bits.deBruijn32tab", "math/bits.deBruijn64tab", "internal/bytealg.MaxLen"], apart := false, laid := [("math/bits.deBruijn32tab", laid_math_bits_deBruijn32tab), ("math/bits.deBruijn64tab", laid_math_bits_deBruijn64tab), ("internal/strconv.uint64pow10", laid_internal_strconv_uint64pow10)], narrowed := true }
def ScriptParsesUptoSaid : Prop := scriptParsesUptoRow.holds Tryz.pinned (OpenSpec.upto scriptParsesSpec)

/-- 'homehublaw58.ScriptTexts', WHERE WHAT IT READS IS OF BULK AT MOST 1048576: true; the input reads as it did. -/
def scriptTextsUptoRow : OpenClaim := { program := "ytmkpmgfieagphaagreatdoor", sum := "06a86db1f7f2274a8370a3125b8b527d2181adbbbae109a89b67d4ebd04a5308", func := "homehub/homehublaw58.ScriptTexts", spec := "scriptTexts", inPlace := ["internal/abi.NoEscape", "internal/bytealg.IndexByteString", "internal/bytealg.IndexString"], unfollowed := true, recurses := true, named := ["internal/strconv.uint64pow10", "math/bits.deBruijn32tab", "math/bits.deBruijn64tab", "internal/bytealg.MaxLen"], apart := false, laid := [("math/bits.deBruijn32tab", laid_math_bits_deBruijn32tab), ("math/bits.deBruijn64tab", laid_math_bits_deBruijn64tab), ("internal/strconv.uint64pow10", laid_internal_strconv_uint64pow10)], narrowed := true }
def ScriptTextsUptoSaid : Prop := scriptTextsUptoRow.holds Tryz.pinned (OpenSpec.upto scriptTextsSpec)

/-- 'homehublaw49.RemoteChecks', WHERE WHAT IT READS IS OF BULK AT MOST 1048576: true; the input reads as it did. -/
def remoteChecksUptoRow : OpenClaim := { program := "ytmkpmgfieagphaagreatdoor", sum := "06a86db1f7f2274a8370a3125b8b527d2181adbbbae109a89b67d4ebd04a5308", func := "homehub/homehublaw49.RemoteChecks", spec := "remoteChecks", inPlace := ["slices.overlaps[homehub/api.Guest]"], unfollowed := true, recurses := true, named := ["homehub/cluster.standard"], apart := false, laid := [("homehub/cluster.standard", laid_homehub_cluster_standard)], narrowed := true }
def RemoteChecksUptoSaid : Prop := remoteChecksUptoRow.holds Tryz.pinned (OpenSpec.upto remoteChecksSpec)

/-- 'homehublaw49.RemoteBytes', WHERE WHAT IT READS IS OF BULK AT MOST 1048576: true; the input reads as it did. -/
def remoteBytesUptoRow : OpenClaim := { program := "ytmkpmgfieagphaagreatdoor", sum := "06a86db1f7f2274a8370a3125b8b527d2181adbbbae109a89b67d4ebd04a5308", func := "homehub/homehublaw49.RemoteBytes", spec := "remoteBytes", inPlace := ["slices.overlaps[homehub/api.Guest]"], unfollowed := true, recurses := true, named := ["homehub/cluster.standard"], apart := false, laid := [("homehub/cluster.standard", laid_homehub_cluster_standard)], narrowed := true }
def RemoteBytesUptoSaid : Prop := remoteBytesUptoRow.holds Tryz.pinned (OpenSpec.upto remoteBytesSpec)

/-- 'homehublaw49.RemoteAdmits', WHERE WHAT IT READS IS OF BULK AT MOST 1048576: true; the input reads as it did. -/
def remoteAdmitsUptoRow : OpenClaim := { program := "ytmkpmgfieagphaagreatdoor", sum := "06a86db1f7f2274a8370a3125b8b527d2181adbbbae109a89b67d4ebd04a5308", func := "homehub/homehublaw49.RemoteAdmits", spec := "remoteAdmits", inPlace := ["slices.overlaps[homehub/api.Guest]"], unfollowed := true, recurses := true, named := ["homehub/cluster.standard"], loops := true, apart := false, laid := [("homehub/cluster.standard", laid_homehub_cluster_standard)], narrowed := true }
def RemoteAdmitsUptoSaid : Prop := remoteAdmitsUptoRow.holds Tryz.pinned (OpenSpec.upto remoteAdmitsSpec)

/-- 'homehublaw49.RemoteBack', WHERE WHAT IT READS IS OF BULK AT MOST 1048576: true; the input reads as it did. -/
def remoteBackUptoRow : OpenClaim := { program := "ytmkpmgfieagphaagreatdoor", sum := "06a86db1f7f2274a8370a3125b8b527d2181adbbbae109a89b67d4ebd04a5308", func := "homehub/homehublaw49.RemoteBack", spec := "remoteBack", inPlace := ["slices.overlaps[homehub/api.Guest]"], unfollowed := true, recurses := true, named := ["homehub/cluster.standard"], apart := false, laid := [("homehub/cluster.standard", laid_homehub_cluster_standard)], narrowed := true }
def RemoteBackUptoSaid : Prop := remoteBackUptoRow.holds Tryz.pinned (OpenSpec.upto remoteBackSpec)

/-- 'homehublaw49.RemoteOnce', WHERE WHAT IT READS IS OF BULK AT MOST 1048576: true; the input reads as it did. -/
def remoteOnceUptoRow : OpenClaim := { program := "ytmkpmgfieagphaagreatdoor", sum := "06a86db1f7f2274a8370a3125b8b527d2181adbbbae109a89b67d4ebd04a5308", func := "homehub/homehublaw49.RemoteOnce", spec := "remoteOnce", inPlace := ["slices.overlaps[homehub/api.Guest]"], unfollowed := true, recurses := true, named := ["homehub/cluster.standard"], loops := true, apart := false, laid := [("homehub/cluster.standard", laid_homehub_cluster_standard)], narrowed := true }
def RemoteOnceUptoSaid : Prop := remoteOnceUptoRow.holds Tryz.pinned (OpenSpec.upto remoteOnceSpec)

/-- 'homehublaw49.RemoteOthers', WHERE WHAT IT READS IS OF BULK AT MOST 1048576: true; the input reads as it did. -/
def remoteOthersUptoRow : OpenClaim := { program := "ytmkpmgfieagphaagreatdoor", sum := "06a86db1f7f2274a8370a3125b8b527d2181adbbbae109a89b67d4ebd04a5308", func := "homehub/homehublaw49.RemoteOthers", spec := "remoteOthers", inPlace := ["slices.overlaps[homehub/api.Guest]"], unfollowed := true, recurses := true, named := ["homehub/cluster.standard"], loops := true, apart := false, laid := [("homehub/cluster.standard", laid_homehub_cluster_standard)], narrowed := true }
def RemoteOthersUptoSaid : Prop := remoteOthersUptoRow.holds Tryz.pinned (OpenSpec.upto remoteOthersSpec)

/-- 'homehublaw49.RemoteWrites', WHERE WHAT IT READS IS OF BULK AT MOST 1048576: true; the input reads as it did. -/
def remoteWritesUptoRow : OpenClaim := { program := "ytmkpmgfieagphaagreatdoor", sum := "06a86db1f7f2274a8370a3125b8b527d2181adbbbae109a89b67d4ebd04a5308", func := "homehub/homehublaw49.RemoteWrites", spec := "remoteWrites", inPlace := ["slices.overlaps[homehub/api.Guest]"], unfollowed := true, recurses := true, named := ["homehub/cluster.standard"], loops := true, apart := false, laid := [("homehub/cluster.standard", laid_homehub_cluster_standard)], narrowed := true }
def RemoteWritesUptoSaid : Prop := remoteWritesUptoRow.holds Tryz.pinned (OpenSpec.upto remoteWritesSpec)

end Rows
end Go.Proofs.YtmkpmgfieagphaaGreatDoor
