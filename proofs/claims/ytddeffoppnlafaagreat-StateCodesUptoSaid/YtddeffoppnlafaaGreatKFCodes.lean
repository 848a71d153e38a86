/- What the row of stateCodes asks of the program. Conditions: none. -/
import Derived.Test.YtddeffoppnlafaaGreatRows
import Derived.JoinedOf
import Derived.JoinedCond
open Go Go.Proofs
namespace Go.Proofs.YtddeffoppnlafaaGreat
theorem zaz:(Rows.stateCodesUptoRow.wf (OpenSpec.ofChange Rows.stateCodesSpec))=true:=by kernel_rfl
theorem zaA:(laidOutB Tryz.prog)=true:=by kernel_rfl
theorem zaB:(mapsRowed Tryz.prog)=true:=by kernel_rfl
theorem zaC:(Tryz.f3.params.all (Tryz.prog.readableRec ·))=true:=by kernel_rfl
theorem zaD:(namedTie Tryz.prog Rows.stateCodesUptoRow.named Rows.stateCodesSpec.vars)=true:=by kernel_rfl
theorem zaE:((Rows.stateCodesUptoRow.stops==[]))=true:=by kernel_rfl
theorem zaF:((Tryz.prog.stops==[]))=true:=by kernel_rfl
theorem zaG:((Rows.stateCodesUptoRow.knobs==[]))=true:=by kernel_rfl
theorem zaH:((Tryz.prog.stopKnobs==[]))=true:=by kernel_rfl
theorem zaI:((Rows.stateCodesUptoRow.inPlace==Tryz.prog.inPlace 3))=true:=by kernel_rfl
theorem zaJ:((Rows.stateCodesUptoRow.unfollowed==Tryz.prog.unfollowed 3))=true:=by kernel_rfl
theorem zaK:((Rows.stateCodesUptoRow.recurses==Tryz.prog.recurses 3))=true:=by kernel_rfl
theorem zaL:((Rows.stateCodesUptoRow.named==Tryz.prog.varsNamed 3))=true:=by kernel_rfl
theorem zaM:((Rows.stateCodesUptoRow.maps==(Tryz.f3.params.toList++Rows.stateCodesSpec.plain.varTypes Tryz.prog).any (Tryz.prog.mapsRec ·)))=true:=by kernel_rfl
theorem zaN:((Rows.stateCodesUptoRow.ifaces==(Tryz.f3.params.toList++Rows.stateCodesSpec.plain.varTypes Tryz.prog).any (Tryz.prog.ifacesRec ·)))=true:=by kernel_rfl
theorem zaO:((Rows.stateCodesUptoRow.mapsOut==Tryz.prog.mapsAmong Tryz.f3.resultTypes.toList))=true:=by kernel_rfl
theorem zaP:((Rows.stateCodesUptoRow.loops==(Tryz.f3.params.toList++Rows.stateCodesSpec.plain.varTypes Tryz.prog).any (Tryz.prog.loopsFrom ·)))=true:=by kernel_rfl
theorem zaQ:((Rows.stateCodesUptoRow.wideKeys==(Tryz.f3.params.toList++Rows.stateCodesSpec.plain.varTypes Tryz.prog++Tryz.f3.resultTypes.toList).any (Tryz.prog.wideKeysFrom ·)))=true:=by kernel_rfl
theorem zaR:(Rows.stateCodesSpec.vars.all (Tryz.prog.varReadable ·))=true:=by kernel_rfl
theorem zaS:(Tryz.f3.resultTypes.all (fun t=>Tryz.prog.readableRec t&&decide (t<Tryz.prog.types.size)))=true:=by kernel_rfl
theorem zaT:((Rows.stateCodesUptoRow.ifacesOut==Tryz.f3.resultTypes.toList.any (Tryz.prog.ifacesRec ·)))=true:=by kernel_rfl
theorem zaU:((Rows.stateCodesUptoRow.loopsOut==Tryz.f3.resultTypes.toList.any (Tryz.prog.loopsFrom ·)))=true:=by kernel_rfl
theorem zaV:((Rows.stateCodesUptoRow.plainKeys==Tryz.prog.plainKeys))=true:=by kernel_rfl
theorem zaW:(Rows.stateCodesUptoRow.shortTexts.isNone)=true:=by kernel_rfl
theorem zaX:(Tryz.prog.stopsHeard)=true:=by kernel_rfl
theorem zaY:(Tryz.prog.mayEnter)=true:=by kernel_rfl
theorem zaZ:((Rows.stateCodesUptoRow.lifted==Tryz.prog.liftsFinal))=true:=by kernel_rfl
theorem za0:((Tryz.prog.make==some Rows.stateCodesUptoRow.make))=true:=by kernel_rfl
theorem za1:((Rows.stateCodesUptoRow.kinds==(if Rows.stateCodesUptoRow.domain.isEmpty then[]else Tryz.f3.params.toList.map fun t=>match Tryz.prog.underlying t with|some (.int k)=>some k|_=>none)))=true:=by kernel_rfl
theorem za2:((Rows.stateCodesUptoRow.pinned==Rows.stateCodesUptoRow.pinnedBy))=true:=by kernel_rfl
theorem za3:((Rows.stateCodesUptoRow.veiled==(Tryz.f3.params.toList++Rows.stateCodesSpec.plain.varTypes Tryz.prog++Tryz.f3.resultTypes.toList).any (Tryz.prog.veiledRec ·)))=true:=by kernel_rfl
theorem za4:(Rows.stateCodesUptoRow.veiledFits Tryz.prog Tryz.f3.params.toList (Tryz.f3.params.toList++Rows.stateCodesSpec.plain.varTypes Tryz.prog++Tryz.f3.resultTypes.toList))=true:=by kernel_rfl
theorem za5:Tryz.prog.funcNamed Rows.stateCodesUptoRow.func=some 3:=by kernel_rfl
theorem za6:Tryz.f3.isInstance Tryz.prog Rows.stateCodesUptoRow.origin Rows.stateCodesUptoRow.targs:=of_decide_eq_true (by kernel_rfl)
theorem za7:Tryz.f3.isWrapper Tryz.prog Rows.stateCodesUptoRow.wrapper Rows.stateCodesUptoRow.mainSum:=by
 unfold Func.isWrapper
 first|(rw[if_pos (by decide+kernel)];kernel_rfl)|(rw[if_neg (by decide+kernel)];exact⟨rfl,rfl⟩)
end Go.Proofs.YtddeffoppnlafaaGreat
