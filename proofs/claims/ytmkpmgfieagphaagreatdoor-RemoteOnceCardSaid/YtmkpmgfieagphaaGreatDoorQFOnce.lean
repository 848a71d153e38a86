/- What the row of remoteOnce asks of the program. Conditions: none. -/
import Derived.Test.YtmkpmgfieagphaaGreatDoorCards
import Derived.JoinedOf
import Derived.SevenTiedAt
open Go Go.Proofs
namespace Go.Proofs.YtmkpmgfieagphaaGreatDoor
theorem UL:(Rows.remoteOnceRow.wf (OpenSpec.ofChange Rows.remoteOnceSpec))=true:=by kernel_rfl
theorem UM:(laidOutB Tryz.prog)=true:=by kernel_rfl
theorem UN:(mapsRowed Tryz.prog)=true:=by kernel_rfl
theorem UO:(Tryz.f10.params.all (Tryz.prog.readableRec ·))=true:=by kernel_rfl
theorem UP:(namedTie Tryz.prog Rows.remoteOnceRow.named Rows.remoteOnceSpec.vars)=true:=by kernel_rfl
theorem UQ:((Rows.remoteOnceRow.stops==[]))=true:=by kernel_rfl
theorem UR:((Tryz.prog.stops==[]))=true:=by kernel_rfl
theorem US:((Rows.remoteOnceRow.knobs==[]))=true:=by kernel_rfl
theorem UT:((Tryz.prog.stopKnobs==[]))=true:=by kernel_rfl
theorem UU:((Rows.remoteOnceRow.inPlace==Tryz.prog.inPlace 10))=true:=by kernel_rfl
theorem UW:((Rows.remoteOnceRow.unfollowed==Tryz.prog.unfollowed 10))=true:=by kernel_rfl
theorem UX:((Rows.remoteOnceRow.recurses==Tryz.prog.recurses 10))=true:=by kernel_rfl
theorem UY:((Rows.remoteOnceRow.named==Tryz.prog.varsNamed 10))=true:=by kernel_rfl
theorem UZ:((Rows.remoteOnceRow.maps==(Tryz.f10.params.toList++Rows.remoteOnceSpec.plain.varTypes Tryz.prog).any (Tryz.prog.mapsRec ·)))=true:=by kernel_rfl
theorem U0:((Rows.remoteOnceRow.ifaces==(Tryz.f10.params.toList++Rows.remoteOnceSpec.plain.varTypes Tryz.prog).any (Tryz.prog.ifacesRec ·)))=true:=by kernel_rfl
theorem U1:((Rows.remoteOnceRow.mapsOut==Tryz.prog.mapsAmong Tryz.f10.resultTypes.toList))=true:=by kernel_rfl
theorem U2:((Rows.remoteOnceRow.loops==(Tryz.f10.params.toList++Rows.remoteOnceSpec.plain.varTypes Tryz.prog).any (Tryz.prog.loopsFrom ·)))=true:=by kernel_rfl
theorem U3:((Rows.remoteOnceRow.wideKeys==(Tryz.f10.params.toList++Rows.remoteOnceSpec.plain.varTypes Tryz.prog++Tryz.f10.resultTypes.toList).any (Tryz.prog.wideKeysFrom ·)))=true:=by kernel_rfl
theorem U4:(Rows.remoteOnceSpec.vars.all (Tryz.prog.varReadable ·))=true:=by kernel_rfl
theorem U5:(Tryz.f10.resultTypes.all (fun t=>Tryz.prog.readableRec t&&decide (t<Tryz.prog.types.size)))=true:=by kernel_rfl
theorem U6:((Rows.remoteOnceRow.ifacesOut==Tryz.f10.resultTypes.toList.any (Tryz.prog.ifacesRec ·)))=true:=by kernel_rfl
theorem U7:((Rows.remoteOnceRow.loopsOut==Tryz.f10.resultTypes.toList.any (Tryz.prog.loopsFrom ·)))=true:=by kernel_rfl
theorem U8:((Rows.remoteOnceRow.plainKeys==Tryz.prog.plainKeys))=true:=by kernel_rfl
theorem U9:(Rows.remoteOnceRow.shortTexts.isNone)=true:=by kernel_rfl
theorem Va:(Tryz.prog.stopsHeard)=true:=by kernel_rfl
theorem Vb:(Tryz.prog.mayEnter)=true:=by kernel_rfl
theorem Vc:((Rows.remoteOnceRow.lifted==Tryz.prog.liftsFinal))=true:=by kernel_rfl
theorem Vd:((Tryz.prog.make==some Rows.remoteOnceRow.make))=true:=by kernel_rfl
theorem Ve:((Rows.remoteOnceRow.kinds==(if Rows.remoteOnceRow.domain.isEmpty then[]else Tryz.f10.params.toList.map fun t=>match Tryz.prog.underlying t with|some (.int k)=>some k|_=>none)))=true:=by kernel_rfl
theorem Vf:((Rows.remoteOnceRow.pinned==Rows.remoteOnceRow.pinnedBy))=true:=by kernel_rfl
theorem Vg:((Rows.remoteOnceRow.veiled==(Tryz.f10.params.toList++Rows.remoteOnceSpec.plain.varTypes Tryz.prog++Tryz.f10.resultTypes.toList).any (Tryz.prog.veiledRec ·)))=true:=by kernel_rfl
theorem Vh:(Rows.remoteOnceRow.veiledFits Tryz.prog Tryz.f10.params.toList (Tryz.f10.params.toList++Rows.remoteOnceSpec.plain.varTypes Tryz.prog++Tryz.f10.resultTypes.toList))=true:=by kernel_rfl
theorem Nj:Tryz.prog.funcNamed Rows.remoteOnceRow.func=some 10:=by kernel_rfl
theorem Vi:Tryz.f10.isInstance Tryz.prog Rows.remoteOnceRow.origin Rows.remoteOnceRow.targs:=of_decide_eq_true (by kernel_rfl)
theorem Vj:Tryz.f10.isWrapper Tryz.prog Rows.remoteOnceRow.wrapper Rows.remoteOnceRow.mainSum:=by
 unfold Func.isWrapper
 first|(rw[if_pos (by decide+kernel)];kernel_rfl)|(rw[if_neg (by decide+kernel)];exact⟨rfl,rfl⟩)
theorem Vk:Rows.remoteOnceRow.wfByText (OpenSpec.ofChange Rows.remoteOnceSpec)=true:=by kernel_rfl
theorem Vl:Tryz.prog.mainIs=some (true,("dc999d89185705428c5669d199ba14a837be99a9d4a57d504c6aad46080d6c14" :String).toList):=by kernel_rfl
theorem Vm:true=Tryz.prog.looks []:=by kernel_rfl
theorem Vn:false=Rows.remoteOnceRow.goesBy Tryz.prog:=by kernel_rfl
theorem Vo:([70,31].all fun u=>!Tryz.prog.wantsStandIn u)=true:=by kernel_rfl
end Go.Proofs.YtmkpmgfieagphaaGreatDoor
