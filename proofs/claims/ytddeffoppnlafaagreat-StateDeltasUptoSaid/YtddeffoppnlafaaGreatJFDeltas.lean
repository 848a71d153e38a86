/- Conditions: none. -/
import Derived.Test.YtddeffoppnlafaaGreatRows
import Derived.JoinedOf
import Derived.JoinedCond
open Go Go.Proofs
namespace Go.Proofs.YtddeffoppnlafaaGreat
theorem zeE:(Rows.stateDeltasUptoRow.wf (OpenSpec.ofChange Rows.stateDeltasSpec))=true:=by kernel_rfl
theorem zeF:(laidOutB Tryz.prog)=true:=by kernel_rfl
theorem zeG:(mapsRowed Tryz.prog)=true:=by kernel_rfl
theorem zeH:(Tryz.f4.params.all (Tryz.prog.readableRec ·))=true:=by kernel_rfl
theorem zeI:(namedTie Tryz.prog Rows.stateDeltasUptoRow.named Rows.stateDeltasSpec.vars)=true:=by kernel_rfl
theorem zeJ:((Rows.stateDeltasUptoRow.stops==[]))=true:=by kernel_rfl
theorem zeK:((Tryz.prog.stops==[]))=true:=by kernel_rfl
theorem zeL:((Rows.stateDeltasUptoRow.knobs==[]))=true:=by kernel_rfl
theorem zeM:((Tryz.prog.stopKnobs==[]))=true:=by kernel_rfl
theorem zeN:((Rows.stateDeltasUptoRow.inPlace==Tryz.prog.inPlace 4))=true:=by kernel_rfl
theorem zeO:((Rows.stateDeltasUptoRow.unfollowed==Tryz.prog.unfollowed 4))=true:=by kernel_rfl
theorem zeP:((Rows.stateDeltasUptoRow.recurses==Tryz.prog.recurses 4))=true:=by kernel_rfl
theorem zeQ:((Rows.stateDeltasUptoRow.named==Tryz.prog.varsNamed 4))=true:=by kernel_rfl
theorem zeR:((Rows.stateDeltasUptoRow.maps==(Tryz.f4.params.toList++Rows.stateDeltasSpec.plain.varTypes Tryz.prog).any (Tryz.prog.mapsRec ·)))=true:=by kernel_rfl
theorem zeS:((Rows.stateDeltasUptoRow.ifaces==(Tryz.f4.params.toList++Rows.stateDeltasSpec.plain.varTypes Tryz.prog).any (Tryz.prog.ifacesRec ·)))=true:=by kernel_rfl
theorem zeT:((Rows.stateDeltasUptoRow.mapsOut==Tryz.prog.mapsAmong Tryz.f4.resultTypes.toList))=true:=by kernel_rfl
theorem zeU:((Rows.stateDeltasUptoRow.loops==(Tryz.f4.params.toList++Rows.stateDeltasSpec.plain.varTypes Tryz.prog).any (Tryz.prog.loopsFrom ·)))=true:=by kernel_rfl
theorem zeV:((Rows.stateDeltasUptoRow.wideKeys==(Tryz.f4.params.toList++Rows.stateDeltasSpec.plain.varTypes Tryz.prog++Tryz.f4.resultTypes.toList).any (Tryz.prog.wideKeysFrom ·)))=true:=by kernel_rfl
theorem zeW:(Rows.stateDeltasSpec.vars.all (Tryz.prog.varReadable ·))=true:=by kernel_rfl
theorem zeX:(Tryz.f4.resultTypes.all (λt=>Tryz.prog.readableRec t&&decide (t<Tryz.prog.types.size)))=true:=by kernel_rfl
theorem zeY:((Rows.stateDeltasUptoRow.ifacesOut==Tryz.f4.resultTypes.toList.any (Tryz.prog.ifacesRec ·)))=true:=by kernel_rfl
theorem zeZ:((Rows.stateDeltasUptoRow.loopsOut==Tryz.f4.resultTypes.toList.any (Tryz.prog.loopsFrom ·)))=true:=by kernel_rfl
theorem ze0:((Rows.stateDeltasUptoRow.plainKeys==Tryz.prog.plainKeys))=true:=by kernel_rfl
theorem ze1:(Rows.stateDeltasUptoRow.shortTexts.isNone)=true:=by kernel_rfl
theorem ze2:(Tryz.prog.stopsHeard)=true:=by kernel_rfl
theorem ze3:(Tryz.prog.mayEnter)=true:=by kernel_rfl
theorem ze4:((Rows.stateDeltasUptoRow.lifted==Tryz.prog.liftsFinal))=true:=by kernel_rfl
theorem ze5:((Tryz.prog.make==some Rows.stateDeltasUptoRow.make))=true:=by kernel_rfl
theorem ze6:((Rows.stateDeltasUptoRow.kinds==(if Rows.stateDeltasUptoRow.domain.isEmpty then[]else Tryz.f4.params.toList.map λt=>match Tryz.prog.underlying t with|some (.int k)=>some k|_=>none)))=true:=by kernel_rfl
theorem ze7:((Rows.stateDeltasUptoRow.pinned==Rows.stateDeltasUptoRow.pinnedBy))=true:=by kernel_rfl
theorem ze8:((Rows.stateDeltasUptoRow.veiled==(Tryz.f4.params.toList++Rows.stateDeltasSpec.plain.varTypes Tryz.prog++Tryz.f4.resultTypes.toList).any (Tryz.prog.veiledRec ·)))=true:=by kernel_rfl
theorem ze9:(Rows.stateDeltasUptoRow.veiledFits Tryz.prog Tryz.f4.params.toList (Tryz.f4.params.toList++Rows.stateDeltasSpec.plain.varTypes Tryz.prog++Tryz.f4.resultTypes.toList))=true:=by kernel_rfl
theorem zfa:Tryz.prog.funcNamed Rows.stateDeltasUptoRow.func=some 4:=by kernel_rfl
theorem zfb:Tryz.f4.isInstance Tryz.prog Rows.stateDeltasUptoRow.origin Rows.stateDeltasUptoRow.targs:=of_decide_eq_true (by kernel_rfl)
theorem zfc:Tryz.f4.isWrapper Tryz.prog Rows.stateDeltasUptoRow.wrapper Rows.stateDeltasUptoRow.mainSum:=by
 unfold Func.isWrapper
 first|(rw[if_pos (by decide+kernel)];kernel_rfl)|(rw[if_neg (by decide+kernel)];exact⟨rfl,rfl⟩)
end Go.Proofs.YtddeffoppnlafaaGreat
