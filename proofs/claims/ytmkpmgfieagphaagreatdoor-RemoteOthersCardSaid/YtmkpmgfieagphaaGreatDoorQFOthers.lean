/- What the row of remoteOthers asks of the program. Conditions: none. -/
import Derived.Test.YtmkpmgfieagphaaGreatDoorCards
import Derived.JoinedOf
import Derived.SevenTiedAt
open Go Go.Proofs
namespace Go.Proofs.YtmkpmgfieagphaaGreatDoor
theorem Vp:(Rows.remoteOthersRow.wf (OpenSpec.ofChange Rows.remoteOthersSpec))=true:=by kernel_rfl
theorem Vq:(laidOutB Tryz.prog)=true:=by kernel_rfl
theorem Vr:(mapsRowed Tryz.prog)=true:=by kernel_rfl
theorem Vs:(Tryz.f11.params.all (Tryz.prog.readableRec ·))=true:=by kernel_rfl
theorem Vt:(namedTie Tryz.prog Rows.remoteOthersRow.named Rows.remoteOthersSpec.vars)=true:=by kernel_rfl
theorem Vu:((Rows.remoteOthersRow.stops==[]))=true:=by kernel_rfl
theorem Vv:((Tryz.prog.stops==[]))=true:=by kernel_rfl
theorem Vw:((Rows.remoteOthersRow.knobs==[]))=true:=by kernel_rfl
theorem Vx:((Tryz.prog.stopKnobs==[]))=true:=by kernel_rfl
theorem Vy:((Rows.remoteOthersRow.inPlace==Tryz.prog.inPlace 11))=true:=by kernel_rfl
theorem Vz:((Rows.remoteOthersRow.unfollowed==Tryz.prog.unfollowed 11))=true:=by kernel_rfl
theorem VA:((Rows.remoteOthersRow.recurses==Tryz.prog.recurses 11))=true:=by kernel_rfl
theorem VB:((Rows.remoteOthersRow.named==Tryz.prog.varsNamed 11))=true:=by kernel_rfl
theorem VC:((Rows.remoteOthersRow.maps==(Tryz.f11.params.toList++Rows.remoteOthersSpec.plain.varTypes Tryz.prog).any (Tryz.prog.mapsRec ·)))=true:=by kernel_rfl
theorem VD:((Rows.remoteOthersRow.ifaces==(Tryz.f11.params.toList++Rows.remoteOthersSpec.plain.varTypes Tryz.prog).any (Tryz.prog.ifacesRec ·)))=true:=by kernel_rfl
theorem VE:((Rows.remoteOthersRow.mapsOut==Tryz.prog.mapsAmong Tryz.f11.resultTypes.toList))=true:=by kernel_rfl
theorem VF:((Rows.remoteOthersRow.loops==(Tryz.f11.params.toList++Rows.remoteOthersSpec.plain.varTypes Tryz.prog).any (Tryz.prog.loopsFrom ·)))=true:=by kernel_rfl
theorem VG:((Rows.remoteOthersRow.wideKeys==(Tryz.f11.params.toList++Rows.remoteOthersSpec.plain.varTypes Tryz.prog++Tryz.f11.resultTypes.toList).any (Tryz.prog.wideKeysFrom ·)))=true:=by kernel_rfl
theorem VH:(Rows.remoteOthersSpec.vars.all (Tryz.prog.varReadable ·))=true:=by kernel_rfl
theorem VI:(Tryz.f11.resultTypes.all (fun t=>Tryz.prog.readableRec t&&decide (t<Tryz.prog.types.size)))=true:=by kernel_rfl
theorem VJ:((Rows.remoteOthersRow.ifacesOut==Tryz.f11.resultTypes.toList.any (Tryz.prog.ifacesRec ·)))=true:=by kernel_rfl
theorem VK:((Rows.remoteOthersRow.loopsOut==Tryz.f11.resultTypes.toList.any (Tryz.prog.loopsFrom ·)))=true:=by kernel_rfl
theorem VL:((Rows.remoteOthersRow.plainKeys==Tryz.prog.plainKeys))=true:=by kernel_rfl
theorem VM:(Rows.remoteOthersRow.shortTexts.isNone)=true:=by kernel_rfl
theorem VN:(Tryz.prog.stopsHeard)=true:=by kernel_rfl
theorem VO:(Tryz.prog.mayEnter)=true:=by kernel_rfl
theorem VP:((Rows.remoteOthersRow.lifted==Tryz.prog.liftsFinal))=true:=by kernel_rfl
theorem VQ:((Tryz.prog.make==some Rows.remoteOthersRow.make))=true:=by kernel_rfl
theorem VR:((Rows.remoteOthersRow.kinds==(if Rows.remoteOthersRow.domain.isEmpty then[]else Tryz.f11.params.toList.map fun t=>match Tryz.prog.underlying t with|some (.int k)=>some k|_=>none)))=true:=by kernel_rfl
theorem VS:((Rows.remoteOthersRow.pinned==Rows.remoteOthersRow.pinnedBy))=true:=by kernel_rfl
theorem VT:((Rows.remoteOthersRow.veiled==(Tryz.f11.params.toList++Rows.remoteOthersSpec.plain.varTypes Tryz.prog++Tryz.f11.resultTypes.toList).any (Tryz.prog.veiledRec ·)))=true:=by kernel_rfl
theorem VU:(Rows.remoteOthersRow.veiledFits Tryz.prog Tryz.f11.params.toList (Tryz.f11.params.toList++Rows.remoteOthersSpec.plain.varTypes Tryz.prog++Tryz.f11.resultTypes.toList))=true:=by kernel_rfl
theorem Nk:Tryz.prog.funcNamed Rows.remoteOthersRow.func=some 11:=by kernel_rfl
theorem VV:Tryz.f11.isInstance Tryz.prog Rows.remoteOthersRow.origin Rows.remoteOthersRow.targs:=of_decide_eq_true (by kernel_rfl)
theorem VW:Tryz.f11.isWrapper Tryz.prog Rows.remoteOthersRow.wrapper Rows.remoteOthersRow.mainSum:=by
 unfold Func.isWrapper
 first|(rw[if_pos (by decide+kernel)];kernel_rfl)|(rw[if_neg (by decide+kernel)];exact⟨rfl,rfl⟩)
theorem VX:Rows.remoteOthersRow.wfByText (OpenSpec.ofChange Rows.remoteOthersSpec)=true:=by kernel_rfl
theorem VY:Tryz.prog.mainIs=some (true,("dc999d89185705428c5669d199ba14a837be99a9d4a57d504c6aad46080d6c14" :String).toList):=by kernel_rfl
theorem VZ:true=Tryz.prog.looks []:=by kernel_rfl
theorem V0:false=Rows.remoteOthersRow.goesBy Tryz.prog:=by kernel_rfl
theorem V1:([70,9].all fun u=>!Tryz.prog.wantsStandIn u)=true:=by kernel_rfl
end Go.Proofs.YtmkpmgfieagphaaGreatDoor
