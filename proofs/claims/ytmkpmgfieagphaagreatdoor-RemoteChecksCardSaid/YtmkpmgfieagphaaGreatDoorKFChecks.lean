/- What the row of remoteChecks asks of the program. Conditions: none. -/
import Derived.Test.YtmkpmgfieagphaaGreatDoorCards
import Derived.JoinedOf
import Derived.SevenTiedAt
open Go Go.Proofs
namespace Go.Proofs.YtmkpmgfieagphaaGreatDoor
theorem WL:(Rows.remoteChecksRow.wf (OpenSpec.ofChange Rows.remoteChecksSpec))=true:=by kernel_rfl
theorem WM:(laidOutB Tryz.prog)=true:=by kernel_rfl
theorem WN:(mapsRowed Tryz.prog)=true:=by kernel_rfl
theorem WO:(Tryz.f6.params.all (Tryz.prog.readableRec ·))=true:=by kernel_rfl
theorem WQ:(namedTie Tryz.prog Rows.remoteChecksRow.named Rows.remoteChecksSpec.vars)=true:=by kernel_rfl
theorem WR:((Rows.remoteChecksRow.stops==[]))=true:=by kernel_rfl
theorem WS:((Tryz.prog.stops==[]))=true:=by kernel_rfl
theorem WT:((Rows.remoteChecksRow.knobs==[]))=true:=by kernel_rfl
theorem WU:((Tryz.prog.stopKnobs==[]))=true:=by kernel_rfl
theorem WV:((Rows.remoteChecksRow.inPlace==Tryz.prog.inPlace 6))=true:=by kernel_rfl
theorem WW:((Rows.remoteChecksRow.unfollowed==Tryz.prog.unfollowed 6))=true:=by kernel_rfl
theorem WX:((Rows.remoteChecksRow.recurses==Tryz.prog.recurses 6))=true:=by kernel_rfl
theorem WY:((Rows.remoteChecksRow.named==Tryz.prog.varsNamed 6))=true:=by kernel_rfl
theorem WZ:((Rows.remoteChecksRow.maps==(Tryz.f6.params.toList++Rows.remoteChecksSpec.plain.varTypes Tryz.prog).any (Tryz.prog.mapsRec ·)))=true:=by kernel_rfl
theorem W0:((Rows.remoteChecksRow.ifaces==(Tryz.f6.params.toList++Rows.remoteChecksSpec.plain.varTypes Tryz.prog).any (Tryz.prog.ifacesRec ·)))=true:=by kernel_rfl
theorem W1:((Rows.remoteChecksRow.mapsOut==Tryz.prog.mapsAmong Tryz.f6.resultTypes.toList))=true:=by kernel_rfl
theorem W2:((Rows.remoteChecksRow.loops==(Tryz.f6.params.toList++Rows.remoteChecksSpec.plain.varTypes Tryz.prog).any (Tryz.prog.loopsFrom ·)))=true:=by kernel_rfl
theorem W3:((Rows.remoteChecksRow.wideKeys==(Tryz.f6.params.toList++Rows.remoteChecksSpec.plain.varTypes Tryz.prog++Tryz.f6.resultTypes.toList).any (Tryz.prog.wideKeysFrom ·)))=true:=by kernel_rfl
theorem W4:(Rows.remoteChecksSpec.vars.all (Tryz.prog.varReadable ·))=true:=by kernel_rfl
theorem W5:(Tryz.f6.resultTypes.all (fun t=>Tryz.prog.readableRec t&&decide (t<Tryz.prog.types.size)))=true:=by kernel_rfl
theorem W6:((Rows.remoteChecksRow.ifacesOut==Tryz.f6.resultTypes.toList.any (Tryz.prog.ifacesRec ·)))=true:=by kernel_rfl
theorem W7:((Rows.remoteChecksRow.loopsOut==Tryz.f6.resultTypes.toList.any (Tryz.prog.loopsFrom ·)))=true:=by kernel_rfl
theorem W8:((Rows.remoteChecksRow.plainKeys==Tryz.prog.plainKeys))=true:=by kernel_rfl
theorem W9:(Rows.remoteChecksRow.shortTexts.isNone)=true:=by kernel_rfl
theorem Xa:(Tryz.prog.stopsHeard)=true:=by kernel_rfl
theorem Xb:(Tryz.prog.mayEnter)=true:=by kernel_rfl
theorem Xc:((Rows.remoteChecksRow.lifted==Tryz.prog.liftsFinal))=true:=by kernel_rfl
theorem Xd:((Tryz.prog.make==some Rows.remoteChecksRow.make))=true:=by kernel_rfl
theorem Xe:((Rows.remoteChecksRow.kinds==(if Rows.remoteChecksRow.domain.isEmpty then[]else Tryz.f6.params.toList.map fun t=>match Tryz.prog.underlying t with|some (.int k)=>some k|_=>none)))=true:=by kernel_rfl
theorem Xf:((Rows.remoteChecksRow.pinned==Rows.remoteChecksRow.pinnedBy))=true:=by kernel_rfl
theorem Xg:((Rows.remoteChecksRow.veiled==(Tryz.f6.params.toList++Rows.remoteChecksSpec.plain.varTypes Tryz.prog++Tryz.f6.resultTypes.toList).any (Tryz.prog.veiledRec ·)))=true:=by kernel_rfl
theorem Xh:(Rows.remoteChecksRow.veiledFits Tryz.prog Tryz.f6.params.toList (Tryz.f6.params.toList++Rows.remoteChecksSpec.plain.varTypes Tryz.prog++Tryz.f6.resultTypes.toList))=true:=by kernel_rfl
theorem OK:Tryz.prog.funcNamed Rows.remoteChecksRow.func=some 6:=by kernel_rfl
theorem Xi:Tryz.f6.isInstance Tryz.prog Rows.remoteChecksRow.origin Rows.remoteChecksRow.targs:=of_decide_eq_true (by kernel_rfl)
theorem Xj:Tryz.f6.isWrapper Tryz.prog Rows.remoteChecksRow.wrapper Rows.remoteChecksRow.mainSum:=by
 unfold Func.isWrapper
 first|(rw[if_pos (by decide+kernel)];kernel_rfl)|(rw[if_neg (by decide+kernel)];exact⟨rfl,rfl⟩)
theorem Xk:Rows.remoteChecksRow.wfByText (OpenSpec.ofChange Rows.remoteChecksSpec)=true:=by kernel_rfl
theorem Xl:Tryz.prog.mainIs=some (true,("dc999d89185705428c5669d199ba14a837be99a9d4a57d504c6aad46080d6c14" :String).toList):=by kernel_rfl
theorem Xm:true=Tryz.prog.looks []:=by kernel_rfl
theorem Xn:false=Rows.remoteChecksRow.goesBy Tryz.prog:=by kernel_rfl
theorem Xo:([51,29].all fun u=>!Tryz.prog.wantsStandIn u)=true:=by kernel_rfl
end Go.Proofs.YtmkpmgfieagphaaGreatDoor
