/- The statement ScriptPrints holds. Conditions: none but those of the given card. -/
import Derived.Test.YtmkpmgfieagphaaGreatDoorPBr
import Derived.Test.YtmkpmgfieagphaaGreatDoorPLPrints
import Derived.Test.YtmkpmgfieagphaaGreatDoorPFPrints
import Derived.Test.YtmkpmgfieagphaaGreatDoorCards
import Derived.Test.YtmkpmgfieagphaaGreatDoorTie
open Go Go.Av Go.Hh Go.Proofs Go.ChangeShapes Go.WideShapes Go.ChangeAt Go.WideMaps Go.WideElems Go.RowKit
namespace Go.Proofs.YtmkpmgfieagphaaGreatDoor
theorem scriptPrints_up : MdOk PG G_ 3 md3 := by
 have h := (upAll (G := G_) zOk_ (g123 rfl) g52).c ⟨3, 73, [.st .ActV], [.bool], false⟩ (List.mem_of_getElem? (i := 58) (by kernel_rfl))
 exact (show getL Md.d M_ (⟨3, 73, [.st .ActV], [.bool], false⟩ : Cn).j = md3 by kernel_rfl) ▸ h.2.2.1
set_option maxRecDepth 100000 in
set_option maxHeartbeats 4000000 in
theorem scriptPrints_lifted (os : Os) (started : os.Started) (H : Type) (enc : TypeId × Value → H) :
    ReturnsInHanded {} Tryz.checked os 3 .any (fun w args => (Rows.scriptPrintsSpec.pre enc Tryz.prog Tryz.f3 [] false w args ∧ laidMetH Tryz.prog laidL w) ∧ sizedMet enc Tryz.prog Tryz.f3 (OpenSpec.ofChange Rows.scriptPrintsSpec) false w args)
      (Rows.scriptPrintsSpec.post enc Tryz.prog Tryz.f3 false true false false) := by
  refine returnsInHanded_of_change_and (C := Tryz.checked) (X := fun w _ => laidMetH Tryz.prog laidL w) (fun _ _ _ hh h => h.of_heap hh) own started (by kernel_rfl) Tryz.func3
    (ChangeSpec.witness_shaped (enc := enc) (C := Tryz.checked) (os := os) (X := fun w _ => laidMetH Tryz.prog laidL w) false (World.doorLaid Tryz.prog 400 os) #[.agg #[.int .i64 0, .int .i64 0, .int .i64 0, .int .i64 0, .string ByteArray.empty, .string ByteArray.empty, .int .i64 0, .int .i64 0, .string ByteArray.empty, .int .i64 0, .string ByteArray.empty, .string ByteArray.empty, .string ByteArray.empty, .int .i64 0, .int .i64 0, .int .i64 0, .string ByteArray.empty, .string ByteArray.empty, .string ByteArray.empty, .int .i64 0, .int .i64 0, .string ByteArray.empty, .string ByteArray.empty]] 20 rfl (World.shaped_of_RefB (by kernel_rfl) (by kernel_rfl)) (by kernel_rfl) (by kernel_rfl) (by kernel_rfl) (door_met os _)) ?_
  intro W base args ds gs before hval hW _ hwt hL _
  have hpar : Tryz.f3.params.toList = [33] := by rw [Tryz.params3]
  exact law_md (T := Ty_) hW rfl (fun ds hl => by rw [hpar] at hl; match ds, hl with | [d0], _ => rfl) hwt hval rfl (by kernel_rfl) (tb := 4) (by kernel_rfl) kids full (by rw [hpar]; decide) (m := md3) (by rw [hpar]; kernel_rfl) (glob_met hL) scriptPrints_up lawPrints
set_option maxRecDepth 100000 in
set_option maxHeartbeats 4000000 in
theorem scriptPrints_closed : joinedFacts Tryz.prog 3 Tryz.f3 Rows.scriptPrintsSpec Rows.scriptPrintsRow = true := by
 unfold joinedFacts
 simp only [Bool.and_eq_true]
 exact ⟨⟨⟨⟨⟨⟨⟨⟨⟨⟨⟨⟨⟨⟨⟨⟨⟨⟨⟨⟨⟨⟨⟨⟨⟨⟨⟨⟨⟨⟨⟨scriptPrints_a0, scriptPrints_a1⟩, scriptPrints_a2⟩, scriptPrints_a3⟩, scriptPrints_a4⟩, scriptPrints_a5⟩, scriptPrints_a6⟩, scriptPrints_a7⟩, scriptPrints_a8⟩, scriptPrints_a9⟩, scriptPrints_a10⟩, scriptPrints_a11⟩, scriptPrints_a12⟩, scriptPrints_a13⟩, scriptPrints_a14⟩, scriptPrints_a15⟩, scriptPrints_a16⟩, scriptPrints_a17⟩, scriptPrints_a18⟩, scriptPrints_a19⟩, scriptPrints_a20⟩, scriptPrints_a21⟩, scriptPrints_a22⟩, scriptPrints_a23⟩, scriptPrints_a24⟩, scriptPrints_a25⟩, scriptPrints_a26⟩, scriptPrints_a27⟩, scriptPrints_a28⟩, scriptPrints_a29⟩, scriptPrints_a30⟩, scriptPrints_a31⟩
set_option maxRecDepth 100000 in
set_option maxHeartbeats 4000000 in
theorem scriptPrints_row : Rows.ScriptPrintsSaid :=
 OpenClaim.holds_of_wide 3 Tryz.f3 rfl rfl rfl rfl rfl rfl rfl ⟨rfl, rfl, rfl, rfl, rfl⟩ rfl rfl rfl rfl rfl scriptPrints_func Tryz.func3 scriptPrints_closed
  scriptPrints_inst scriptPrints_wrap
  (fun os started H enc _ => scriptPrints_lifted os started H enc)
set_option maxRecDepth 100000 in
set_option maxHeartbeats 4000000 in
theorem scriptPrints_holds : Rows.ScriptPrintsCardSaid :=
 Claim7.holds_tied_plain_at .later [] [.data, .data, .data] true (true, "dc999d89185705428c5669d199ba14a837be99a9d4a57d504c6aad46080d6c14") true
  scriptPrints_row (fun _ h => by cases h) scriptPrints_text (fun _ h => by cases h) scriptPrints_row_tie rfl ⟨rfl, rfl⟩ scriptPrints_main rfl
  (fun f fn hf hfn => by
   obtain rfl : f = 3 := Option.some.inj (scriptPrints_func.symm.trans hf) |>.symm
   obtain rfl : fn = Tryz.f3 := (Option.some.inj (Tryz.func3.symm.trans hfn)).symm
   exact ⟨scriptPrints_looks, fun j t ht => by
    rw [Tryz.params3] at ht
    have hm : t ∈ [33] := by simpa using Array.mem_of_getElem? ht
    exact (show Tryz.prog.wantsStandIn t = false by simpa using List.all_eq_true.1 scriptPrints_wants t hm)⟩)
  scriptPrints_goes
#print axioms scriptPrints_holds
end Go.Proofs.YtmkpmgfieagphaaGreatDoor
