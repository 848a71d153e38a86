/- What the row of remoteBack asks of the program. Conditions: none. -/
import Derived.Test.YtmkpmgfieagphaaGreatDoorCards
import Derived.JoinedOf
import Derived.SevenTiedAt
open Go Go.Proofs
namespace Go.Proofs.YtmkpmgfieagphaaGreatDoor
theorem VA:(Rows.remoteBackRow.wf (OpenSpec.ofChange Rows.remoteBackSpec))=true:=by kernel_rfl
theorem VB:(laidOutB Tryz.prog)=true:=by kernel_rfl
theorem VC:(mapsRowed Tryz.prog)=true:=by kernel_rfl
theorem VD:(Tryz.f9.params.all (Tryz.prog.readableRec ·))=true:=by kernel_rfl
theorem VE:(namedTie Tryz.prog Rows.remoteBackRow.named Rows.remoteBackSpec.vars)=true:=by kernel_rfl
theorem VF:((Rows.remoteBackRow.stops==[]))=true:=by kernel_rfl
theorem VG:((Tryz.prog.stops==[]))=true:=by kernel_rfl
theorem VH:((Rows.remoteBackRow.knobs==[]))=true:=by kernel_rfl
theorem VI:((Tryz.prog.stopKnobs==[]))=true:=by kernel_rfl
theorem VJ:((Rows.remoteBackRow.inPlace==Tryz.prog.inPlace 9))=true:=by kernel_rfl
theorem VK:((Rows.remoteBackRow.unfollowed==Tryz.prog.unfollowed 9))=true:=by kernel_rfl
theorem VL:((Rows.remoteBackRow.recurses==Tryz.prog.recurses 9))=true:=by kernel_rfl
theorem VM:((Rows.remoteBackRow.named==Tryz.prog.varsNamed 9))=true:=by kernel_rfl
theorem VN:((Rows.remoteBackRow.maps==(Tryz.f9.params.toList++Rows.remoteBackSpec.plain.varTypes Tryz.prog).any (Tryz.prog.mapsRec ·)))=true:=by kernel_rfl
theorem VO:((Rows.remoteBackRow.ifaces==(Tryz.f9.params.toList++Rows.remoteBackSpec.plain.varTypes Tryz.prog).any (Tryz.prog.ifacesRec ·)))=true:=by kernel_rfl
theorem VP:((Rows.remoteBackRow.mapsOut==Tryz.prog.mapsAmong Tryz.f9.resultTypes.toList))=true:=by kernel_rfl
theorem VQ:((Rows.remoteBackRow.loops==(Tryz.f9.params.toList++Rows.remoteBackSpec.plain.varTypes Tryz.prog).any (Tryz.prog.loopsFrom ·)))=true:=by kernel_rfl
theorem VR:((Rows.remoteBackRow.wideKeys==(Tryz.f9.params.toList++Rows.remoteBackSpec.plain.varTypes Tryz.prog++Tryz.f9.resultTypes.toList).any (Tryz.prog.wideKeysFrom ·)))=true:=by kernel_rfl
theorem VS:(Rows.remoteBackSpec.vars.all (Tryz.prog.varReadable ·))=true:=by kernel_rfl
theorem VT:(Tryz.f9.resultTypes.all (fun t=>Tryz.prog.readableRec t&&decide (t<Tryz.prog.types.size)))=true:=by kernel_rfl
theorem VU:((Rows.remoteBackRow.ifacesOut==Tryz.f9.resultTypes.toList.any (Tryz.prog.ifacesRec ·)))=true:=by kernel_rfl
theorem VV:((Rows.remoteBackRow.loopsOut==Tryz.f9.resultTypes.toList.any (Tryz.prog.loopsFrom ·)))=true:=by kernel_rfl
theorem VW:((Rows.remoteBackRow.plainKeys==Tryz.prog.plainKeys))=true:=by kernel_rfl
theorem VX:(Rows.remoteBackRow.shortTexts.isNone)=true:=by kernel_rfl
theorem VY:(Tryz.prog.stopsHeard)=true:=by kernel_rfl
theorem VZ:(Tryz.prog.mayEnter)=true:=by kernel_rfl
theorem V0:((Rows.remoteBackRow.lifted==Tryz.prog.liftsFinal))=true:=by kernel_rfl
theorem V1:((Tryz.prog.make==some Rows.remoteBackRow.make))=true:=by kernel_rfl
theorem V2:((Rows.remoteBackRow.kinds==(if Rows.remoteBackRow.domain.isEmpty then[]else Tryz.f9.params.toList.map fun t=>match Tryz.prog.underlying t with|some (.int k)=>some k|_=>none)))=true:=by kernel_rfl
theorem V3:((Rows.remoteBackRow.pinned==Rows.remoteBackRow.pinnedBy))=true:=by kernel_rfl
theorem V4:((Rows.remoteBackRow.veiled==(Tryz.f9.params.toList++Rows.remoteBackSpec.plain.varTypes Tryz.prog++Tryz.f9.resultTypes.toList).any (Tryz.prog.veiledRec ·)))=true:=by kernel_rfl
theorem V5:(Rows.remoteBackRow.veiledFits Tryz.prog Tryz.f9.params.toList (Tryz.f9.params.toList++Rows.remoteBackSpec.plain.varTypes Tryz.prog++Tryz.f9.resultTypes.toList))=true:=by kernel_rfl
theorem Oc:Tryz.prog.funcNamed Rows.remoteBackRow.func=some 9:=by kernel_rfl
theorem V6:Tryz.f9.isInstance Tryz.prog Rows.remoteBackRow.origin Rows.remoteBackRow.targs:=of_decide_eq_true (by kernel_rfl)
theorem V7:Tryz.f9.isWrapper Tryz.prog Rows.remoteBackRow.wrapper Rows.remoteBackRow.mainSum:=by
 unfold Func.isWrapper
 first|(rw[if_pos (by decide+kernel)];kernel_rfl)|(rw[if_neg (by decide+kernel)];exact⟨rfl,rfl⟩)
theorem V8:Rows.remoteBackRow.wfByText (OpenSpec.ofChange Rows.remoteBackSpec)=true:=by kernel_rfl
theorem V9:Tryz.prog.mainIs=some (true,("dc999d89185705428c5669d199ba14a837be99a9d4a57d504c6aad46080d6c14" :String).toList):=by kernel_rfl
theorem Wa:true=Tryz.prog.looks []:=by kernel_rfl
theorem Wb:false=Rows.remoteBackRow.goesBy Tryz.prog:=by kernel_rfl
theorem Wc:([51,29,9].all fun u=>!Tryz.prog.wantsStandIn u)=true:=by kernel_rfl
end Go.Proofs.YtmkpmgfieagphaaGreatDoor
