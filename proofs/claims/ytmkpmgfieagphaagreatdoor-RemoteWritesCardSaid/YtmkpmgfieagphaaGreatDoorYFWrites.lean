/- What the row of remoteWrites asks of the program. Conditions: none. -/
import Derived.Test.YtmkpmgfieagphaaGreatDoorCards
import Derived.JoinedOf
import Derived.SevenTiedAt
open Go Go.Proofs
namespace Go.Proofs.YtmkpmgfieagphaaGreatDoor
theorem Wj:(Rows.remoteWritesRow.wf (OpenSpec.ofChange Rows.remoteWritesSpec))=true:=by kernel_rfl
theorem Wk:(laidOutB Tryz.prog)=true:=by kernel_rfl
theorem Wl:(mapsRowed Tryz.prog)=true:=by kernel_rfl
theorem Wm:(Tryz.f12.params.all (Tryz.prog.readableRec ·))=true:=by kernel_rfl
theorem Wn:(namedTie Tryz.prog Rows.remoteWritesRow.named Rows.remoteWritesSpec.vars)=true:=by kernel_rfl
theorem Wo:((Rows.remoteWritesRow.stops==[]))=true:=by kernel_rfl
theorem Wp:((Tryz.prog.stops==[]))=true:=by kernel_rfl
theorem Wq:((Rows.remoteWritesRow.knobs==[]))=true:=by kernel_rfl
theorem Wr:((Tryz.prog.stopKnobs==[]))=true:=by kernel_rfl
theorem Ws:((Rows.remoteWritesRow.inPlace==Tryz.prog.inPlace 12))=true:=by kernel_rfl
theorem Wt:((Rows.remoteWritesRow.unfollowed==Tryz.prog.unfollowed 12))=true:=by kernel_rfl
theorem Wu:((Rows.remoteWritesRow.recurses==Tryz.prog.recurses 12))=true:=by kernel_rfl
theorem Wv:((Rows.remoteWritesRow.named==Tryz.prog.varsNamed 12))=true:=by kernel_rfl
theorem Ww:((Rows.remoteWritesRow.maps==(Tryz.f12.params.toList++Rows.remoteWritesSpec.plain.varTypes Tryz.prog).any (Tryz.prog.mapsRec ·)))=true:=by kernel_rfl
theorem Wx:((Rows.remoteWritesRow.ifaces==(Tryz.f12.params.toList++Rows.remoteWritesSpec.plain.varTypes Tryz.prog).any (Tryz.prog.ifacesRec ·)))=true:=by kernel_rfl
theorem Wy:((Rows.remoteWritesRow.mapsOut==Tryz.prog.mapsAmong Tryz.f12.resultTypes.toList))=true:=by kernel_rfl
theorem Wz:((Rows.remoteWritesRow.loops==(Tryz.f12.params.toList++Rows.remoteWritesSpec.plain.varTypes Tryz.prog).any (Tryz.prog.loopsFrom ·)))=true:=by kernel_rfl
theorem WA:((Rows.remoteWritesRow.wideKeys==(Tryz.f12.params.toList++Rows.remoteWritesSpec.plain.varTypes Tryz.prog++Tryz.f12.resultTypes.toList).any (Tryz.prog.wideKeysFrom ·)))=true:=by kernel_rfl
theorem WB:(Rows.remoteWritesSpec.vars.all (Tryz.prog.varReadable ·))=true:=by kernel_rfl
theorem WC:(Tryz.f12.resultTypes.all (fun t=>Tryz.prog.readableRec t&&decide (t<Tryz.prog.types.size)))=true:=by kernel_rfl
theorem WD:((Rows.remoteWritesRow.ifacesOut==Tryz.f12.resultTypes.toList.any (Tryz.prog.ifacesRec ·)))=true:=by kernel_rfl
theorem WE:((Rows.remoteWritesRow.loopsOut==Tryz.f12.resultTypes.toList.any (Tryz.prog.loopsFrom ·)))=true:=by kernel_rfl
theorem WG:((Rows.remoteWritesRow.plainKeys==Tryz.prog.plainKeys))=true:=by kernel_rfl
theorem WH:(Rows.remoteWritesRow.shortTexts.isNone)=true:=by kernel_rfl
theorem WI:(Tryz.prog.stopsHeard)=true:=by kernel_rfl
theorem WJ:(Tryz.prog.mayEnter)=true:=by kernel_rfl
theorem WK:((Rows.remoteWritesRow.lifted==Tryz.prog.liftsFinal))=true:=by kernel_rfl
theorem WL:((Tryz.prog.make==some Rows.remoteWritesRow.make))=true:=by kernel_rfl
theorem WM:((Rows.remoteWritesRow.kinds==(if Rows.remoteWritesRow.domain.isEmpty then[]else Tryz.f12.params.toList.map fun t=>match Tryz.prog.underlying t with|some (.int k)=>some k|_=>none)))=true:=by kernel_rfl
theorem WN:((Rows.remoteWritesRow.pinned==Rows.remoteWritesRow.pinnedBy))=true:=by kernel_rfl
theorem WO:((Rows.remoteWritesRow.veiled==(Tryz.f12.params.toList++Rows.remoteWritesSpec.plain.varTypes Tryz.prog++Tryz.f12.resultTypes.toList).any (Tryz.prog.veiledRec ·)))=true:=by kernel_rfl
theorem WQ:(Rows.remoteWritesRow.veiledFits Tryz.prog Tryz.f12.params.toList (Tryz.f12.params.toList++Rows.remoteWritesSpec.plain.varTypes Tryz.prog++Tryz.f12.resultTypes.toList))=true:=by kernel_rfl
theorem OS:Tryz.prog.funcNamed Rows.remoteWritesRow.func=some 12:=by kernel_rfl
theorem WR:Tryz.f12.isInstance Tryz.prog Rows.remoteWritesRow.origin Rows.remoteWritesRow.targs:=of_decide_eq_true (by kernel_rfl)
theorem WS:Tryz.f12.isWrapper Tryz.prog Rows.remoteWritesRow.wrapper Rows.remoteWritesRow.mainSum:=by
 unfold Func.isWrapper
 first|(rw[if_pos (by decide+kernel)];kernel_rfl)|(rw[if_neg (by decide+kernel)];exact⟨rfl,rfl⟩)
theorem WT:Rows.remoteWritesRow.wfByText (OpenSpec.ofChange Rows.remoteWritesSpec)=true:=by kernel_rfl
theorem WU:Tryz.prog.mainIs=some (true,("dc999d89185705428c5669d199ba14a837be99a9d4a57d504c6aad46080d6c14" :String).toList):=by kernel_rfl
theorem WV:true=Tryz.prog.looks []:=by kernel_rfl
theorem WW:false=Rows.remoteWritesRow.goesBy Tryz.prog:=by kernel_rfl
theorem WX:([51,81,70].all fun u=>!Tryz.prog.wantsStandIn u)=true:=by kernel_rfl
end Go.Proofs.YtmkpmgfieagphaaGreatDoor
