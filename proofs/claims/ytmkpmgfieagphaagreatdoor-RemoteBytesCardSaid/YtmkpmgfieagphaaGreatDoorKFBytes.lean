/- What the row of remoteBytes asks of the program. Conditions: none. -/
import Derived.Test.YtmkpmgfieagphaaGreatDoorCards
import Derived.JoinedOf
import Derived.SevenTiedAt
open Go Go.Proofs
namespace Go.Proofs.YtmkpmgfieagphaaGreatDoor
theorem V6:(Rows.remoteBytesRow.wf (OpenSpec.ofChange Rows.remoteBytesSpec))=true:=by kernel_rfl
theorem V7:(laidOutB Tryz.prog)=true:=by kernel_rfl
theorem V8:(mapsRowed Tryz.prog)=true:=by kernel_rfl
theorem V9:(Tryz.f7.params.all (Tryz.prog.readableRec ·))=true:=by kernel_rfl
theorem Wa:(namedTie Tryz.prog Rows.remoteBytesRow.named Rows.remoteBytesSpec.vars)=true:=by kernel_rfl
theorem Wb:((Rows.remoteBytesRow.stops==[]))=true:=by kernel_rfl
theorem Wc:((Tryz.prog.stops==[]))=true:=by kernel_rfl
theorem Wd:((Rows.remoteBytesRow.knobs==[]))=true:=by kernel_rfl
theorem We:((Tryz.prog.stopKnobs==[]))=true:=by kernel_rfl
theorem Wf:((Rows.remoteBytesRow.inPlace==Tryz.prog.inPlace 7))=true:=by kernel_rfl
theorem Wh:((Rows.remoteBytesRow.unfollowed==Tryz.prog.unfollowed 7))=true:=by kernel_rfl
theorem Wi:((Rows.remoteBytesRow.recurses==Tryz.prog.recurses 7))=true:=by kernel_rfl
theorem Wj:((Rows.remoteBytesRow.named==Tryz.prog.varsNamed 7))=true:=by kernel_rfl
theorem Wk:((Rows.remoteBytesRow.maps==(Tryz.f7.params.toList++Rows.remoteBytesSpec.plain.varTypes Tryz.prog).any (Tryz.prog.mapsRec ·)))=true:=by kernel_rfl
theorem Wl:((Rows.remoteBytesRow.ifaces==(Tryz.f7.params.toList++Rows.remoteBytesSpec.plain.varTypes Tryz.prog).any (Tryz.prog.ifacesRec ·)))=true:=by kernel_rfl
theorem Wm:((Rows.remoteBytesRow.mapsOut==Tryz.prog.mapsAmong Tryz.f7.resultTypes.toList))=true:=by kernel_rfl
theorem Wn:((Rows.remoteBytesRow.loops==(Tryz.f7.params.toList++Rows.remoteBytesSpec.plain.varTypes Tryz.prog).any (Tryz.prog.loopsFrom ·)))=true:=by kernel_rfl
theorem Wo:((Rows.remoteBytesRow.wideKeys==(Tryz.f7.params.toList++Rows.remoteBytesSpec.plain.varTypes Tryz.prog++Tryz.f7.resultTypes.toList).any (Tryz.prog.wideKeysFrom ·)))=true:=by kernel_rfl
theorem Wp:(Rows.remoteBytesSpec.vars.all (Tryz.prog.varReadable ·))=true:=by kernel_rfl
theorem Wq:(Tryz.f7.resultTypes.all (fun t=>Tryz.prog.readableRec t&&decide (t<Tryz.prog.types.size)))=true:=by kernel_rfl
theorem Wr:((Rows.remoteBytesRow.ifacesOut==Tryz.f7.resultTypes.toList.any (Tryz.prog.ifacesRec ·)))=true:=by kernel_rfl
theorem Ws:((Rows.remoteBytesRow.loopsOut==Tryz.f7.resultTypes.toList.any (Tryz.prog.loopsFrom ·)))=true:=by kernel_rfl
theorem Wt:((Rows.remoteBytesRow.plainKeys==Tryz.prog.plainKeys))=true:=by kernel_rfl
theorem Wu:(Rows.remoteBytesRow.shortTexts.isNone)=true:=by kernel_rfl
theorem Wv:(Tryz.prog.stopsHeard)=true:=by kernel_rfl
theorem Ww:(Tryz.prog.mayEnter)=true:=by kernel_rfl
theorem Wx:((Rows.remoteBytesRow.lifted==Tryz.prog.liftsFinal))=true:=by kernel_rfl
theorem Wy:((Tryz.prog.make==some Rows.remoteBytesRow.make))=true:=by kernel_rfl
theorem Wz:((Rows.remoteBytesRow.kinds==(if Rows.remoteBytesRow.domain.isEmpty then[]else Tryz.f7.params.toList.map fun t=>match Tryz.prog.underlying t with|some (.int k)=>some k|_=>none)))=true:=by kernel_rfl
theorem WA:((Rows.remoteBytesRow.pinned==Rows.remoteBytesRow.pinnedBy))=true:=by kernel_rfl
theorem WB:((Rows.remoteBytesRow.veiled==(Tryz.f7.params.toList++Rows.remoteBytesSpec.plain.varTypes Tryz.prog++Tryz.f7.resultTypes.toList).any (Tryz.prog.veiledRec ·)))=true:=by kernel_rfl
theorem WC:(Rows.remoteBytesRow.veiledFits Tryz.prog Tryz.f7.params.toList (Tryz.f7.params.toList++Rows.remoteBytesSpec.plain.varTypes Tryz.prog++Tryz.f7.resultTypes.toList))=true:=by kernel_rfl
theorem OJ:Tryz.prog.funcNamed Rows.remoteBytesRow.func=some 7:=by kernel_rfl
theorem WD:Tryz.f7.isInstance Tryz.prog Rows.remoteBytesRow.origin Rows.remoteBytesRow.targs:=of_decide_eq_true (by kernel_rfl)
theorem WE:Tryz.f7.isWrapper Tryz.prog Rows.remoteBytesRow.wrapper Rows.remoteBytesRow.mainSum:=by
 unfold Func.isWrapper
 first|(rw[if_pos (by decide+kernel)];kernel_rfl)|(rw[if_neg (by decide+kernel)];exact⟨rfl,rfl⟩)
theorem WG:Rows.remoteBytesRow.wfByText (OpenSpec.ofChange Rows.remoteBytesSpec)=true:=by kernel_rfl
theorem WH:Tryz.prog.mainIs=some (true,("dc999d89185705428c5669d199ba14a837be99a9d4a57d504c6aad46080d6c14" :String).toList):=by kernel_rfl
theorem WI:true=Tryz.prog.looks []:=by kernel_rfl
theorem WJ:false=Rows.remoteBytesRow.goesBy Tryz.prog:=by kernel_rfl
theorem WK:([29,9].all fun u=>!Tryz.prog.wantsStandIn u)=true:=by kernel_rfl
end Go.Proofs.YtmkpmgfieagphaaGreatDoor
