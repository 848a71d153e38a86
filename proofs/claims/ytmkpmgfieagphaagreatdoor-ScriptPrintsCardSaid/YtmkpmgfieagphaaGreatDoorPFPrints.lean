/- What the row of scriptPrints asks of the program. Conditions: none. -/
import Derived.Test.YtmkpmgfieagphaaGreatDoorCards
import Derived.JoinedOf
import Derived.SevenTiedAt
open Go Go.Proofs
namespace Go.Proofs.YtmkpmgfieagphaaGreatDoor
theorem scriptPrints_a0 : (Rows.scriptPrintsRow.wf (OpenSpec.ofChange Rows.scriptPrintsSpec)) = true := by kernel_rfl
theorem scriptPrints_a1 : (laidOutB Tryz.prog) = true := by kernel_rfl
theorem scriptPrints_a2 : (mapsRowed Tryz.prog) = true := by kernel_rfl
theorem scriptPrints_a3 : (Tryz.f3.params.all (Tryz.prog.readableRec ·)) = true := by kernel_rfl
theorem scriptPrints_a4 : (namedTie Tryz.prog Rows.scriptPrintsRow.named Rows.scriptPrintsSpec.vars) = true := by kernel_rfl
theorem scriptPrints_a5 : ((Rows.scriptPrintsRow.stops == [])) = true := by kernel_rfl
theorem scriptPrints_a6 : ((Tryz.prog.stops == [])) = true := by kernel_rfl
theorem scriptPrints_a7 : ((Rows.scriptPrintsRow.knobs == [])) = true := by kernel_rfl
theorem scriptPrints_a8 : ((Tryz.prog.stopKnobs == [])) = true := by kernel_rfl
theorem scriptPrints_a9 : ((Rows.scriptPrintsRow.inPlace == Tryz.prog.inPlace 3)) = true := by kernel_rfl
theorem scriptPrints_a10 : ((Rows.scriptPrintsRow.unfollowed == Tryz.prog.unfollowed 3)) = true := by kernel_rfl
theorem scriptPrints_a11 : ((Rows.scriptPrintsRow.recurses == Tryz.prog.recurses 3)) = true := by kernel_rfl
theorem scriptPrints_a12 : ((Rows.scriptPrintsRow.named == Tryz.prog.varsNamed 3)) = true := by kernel_rfl
theorem scriptPrints_a13 : ((Rows.scriptPrintsRow.maps == (Tryz.f3.params.toList ++ Rows.scriptPrintsSpec.plain.varTypes Tryz.prog).any (Tryz.prog.mapsRec ·))) = true := by kernel_rfl
theorem scriptPrints_a14 : ((Rows.scriptPrintsRow.ifaces == (Tryz.f3.params.toList ++ Rows.scriptPrintsSpec.plain.varTypes Tryz.prog).any (Tryz.prog.ifacesRec ·))) = true := by kernel_rfl
theorem scriptPrints_a15 : ((Rows.scriptPrintsRow.mapsOut == Tryz.prog.mapsAmong Tryz.f3.resultTypes.toList)) = true := by kernel_rfl
theorem scriptPrints_a16 : ((Rows.scriptPrintsRow.loops == (Tryz.f3.params.toList ++ Rows.scriptPrintsSpec.plain.varTypes Tryz.prog).any (Tryz.prog.loopsFrom ·))) = true := by kernel_rfl
theorem scriptPrints_a17 : ((Rows.scriptPrintsRow.wideKeys == (Tryz.f3.params.toList ++ Rows.scriptPrintsSpec.plain.varTypes Tryz.prog ++ Tryz.f3.resultTypes.toList).any (Tryz.prog.wideKeysFrom ·))) = true := by kernel_rfl
theorem scriptPrints_a18 : (Rows.scriptPrintsSpec.vars.all (Tryz.prog.varReadable ·)) = true := by kernel_rfl
theorem scriptPrints_a19 : (Tryz.f3.resultTypes.all (fun t => Tryz.prog.readableRec t && decide (t < Tryz.prog.types.size))) = true := by kernel_rfl
theorem scriptPrints_a20 : ((Rows.scriptPrintsRow.ifacesOut == Tryz.f3.resultTypes.toList.any (Tryz.prog.ifacesRec ·))) = true := by kernel_rfl
theorem scriptPrints_a21 : ((Rows.scriptPrintsRow.loopsOut == Tryz.f3.resultTypes.toList.any (Tryz.prog.loopsFrom ·))) = true := by kernel_rfl
theorem scriptPrints_a22 : ((Rows.scriptPrintsRow.plainKeys == Tryz.prog.plainKeys)) = true := by kernel_rfl
theorem scriptPrints_a23 : (Rows.scriptPrintsRow.shortTexts.isNone) = true := by kernel_rfl
theorem scriptPrints_a24 : (Tryz.prog.stopsHeard) = true := by kernel_rfl
theorem scriptPrints_a25 : (Tryz.prog.mayEnter) = true := by kernel_rfl
theorem scriptPrints_a26 : ((Rows.scriptPrintsRow.lifted == Tryz.prog.liftsFinal)) = true := by kernel_rfl
theorem scriptPrints_a27 : ((Tryz.prog.make == some Rows.scriptPrintsRow.make)) = true := by kernel_rfl
theorem scriptPrints_a28 : ((Rows.scriptPrintsRow.kinds == (if Rows.scriptPrintsRow.domain.isEmpty then [] else Tryz.f3.params.toList.map fun t => match Tryz.prog.underlying t with | some (.int k) => some k | _ => none))) = true := by kernel_rfl
theorem scriptPrints_a29 : ((Rows.scriptPrintsRow.pinned == Rows.scriptPrintsRow.pinnedBy)) = true := by kernel_rfl
theorem scriptPrints_a30 : ((Rows.scriptPrintsRow.veiled == (Tryz.f3.params.toList ++ Rows.scriptPrintsSpec.plain.varTypes Tryz.prog ++ Tryz.f3.resultTypes.toList).any (Tryz.prog.veiledRec ·))) = true := by kernel_rfl
theorem scriptPrints_a31 : (Rows.scriptPrintsRow.veiledFits Tryz.prog Tryz.f3.params.toList (Tryz.f3.params.toList ++ Rows.scriptPrintsSpec.plain.varTypes Tryz.prog ++ Tryz.f3.resultTypes.toList)) = true := by kernel_rfl
theorem scriptPrints_func : Tryz.prog.funcNamed Rows.scriptPrintsRow.func = some 3 := by kernel_rfl
theorem scriptPrints_inst : Tryz.f3.isInstance Tryz.prog Rows.scriptPrintsRow.origin Rows.scriptPrintsRow.targs := of_decide_eq_true (by kernel_rfl)
theorem scriptPrints_wrap : Tryz.f3.isWrapper Tryz.prog Rows.scriptPrintsRow.wrapper Rows.scriptPrintsRow.mainSum := by
 unfold Func.isWrapper
 first | (rw [if_pos (by decide +kernel)]; kernel_rfl) | (rw [if_neg (by decide +kernel)]; exact ⟨rfl, rfl⟩)
theorem scriptPrints_text : Rows.scriptPrintsRow.wfByText (OpenSpec.ofChange Rows.scriptPrintsSpec) = true := by kernel_rfl
theorem scriptPrints_main : Tryz.prog.mainIs = some (true, ("dc999d89185705428c5669d199ba14a837be99a9d4a57d504c6aad46080d6c14" : String).toList) := by kernel_rfl
theorem scriptPrints_looks : true = Tryz.prog.looks [] := by kernel_rfl
theorem scriptPrints_goes : false = Rows.scriptPrintsRow.goesBy Tryz.prog := by kernel_rfl
theorem scriptPrints_wants : ([33].all fun u => !Tryz.prog.wantsStandIn u) = true := by kernel_rfl
end Go.Proofs.YtmkpmgfieagphaaGreatDoor
