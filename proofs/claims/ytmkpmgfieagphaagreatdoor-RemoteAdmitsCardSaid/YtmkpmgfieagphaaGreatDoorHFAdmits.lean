/- What the row of remoteAdmits asks of the program. Conditions: none. -/
import Derived.Test.YtmkpmgfieagphaaGreatDoorCards
import Derived.JoinedOf
import Derived.SevenTiedAt
open Go Go.Proofs
namespace Go.Proofs.YtmkpmgfieagphaaGreatDoor
theorem XC:(Rows.remoteAdmitsRow.wf (OpenSpec.ofChange Rows.remoteAdmitsSpec))=true:=by kernel_rfl
theorem XD:(laidOutB Tryz.prog)=true:=by kernel_rfl
theorem XE:(mapsRowed Tryz.prog)=true:=by kernel_rfl
theorem XF:(Tryz.f8.params.all (Tryz.prog.readableRec ·))=true:=by kernel_rfl
theorem XG:(namedTie Tryz.prog Rows.remoteAdmitsRow.named Rows.remoteAdmitsSpec.vars)=true:=by kernel_rfl
theorem XH:((Rows.remoteAdmitsRow.stops==[]))=true:=by kernel_rfl
theorem XI:((Tryz.prog.stops==[]))=true:=by kernel_rfl
theorem XJ:((Rows.remoteAdmitsRow.knobs==[]))=true:=by kernel_rfl
theorem XK:((Tryz.prog.stopKnobs==[]))=true:=by kernel_rfl
theorem XL:((Rows.remoteAdmitsRow.inPlace==Tryz.prog.inPlace 8))=true:=by kernel_rfl
theorem XM:((Rows.remoteAdmitsRow.unfollowed==Tryz.prog.unfollowed 8))=true:=by kernel_rfl
theorem XN:((Rows.remoteAdmitsRow.recurses==Tryz.prog.recurses 8))=true:=by kernel_rfl
theorem XO:((Rows.remoteAdmitsRow.named==Tryz.prog.varsNamed 8))=true:=by kernel_rfl
theorem XP:((Rows.remoteAdmitsRow.maps==(Tryz.f8.params.toList++Rows.remoteAdmitsSpec.plain.varTypes Tryz.prog).any (Tryz.prog.mapsRec ·)))=true:=by kernel_rfl
theorem XQ:((Rows.remoteAdmitsRow.ifaces==(Tryz.f8.params.toList++Rows.remoteAdmitsSpec.plain.varTypes Tryz.prog).any (Tryz.prog.ifacesRec ·)))=true:=by kernel_rfl
theorem XR:((Rows.remoteAdmitsRow.mapsOut==Tryz.prog.mapsAmong Tryz.f8.resultTypes.toList))=true:=by kernel_rfl
theorem XS:((Rows.remoteAdmitsRow.loops==(Tryz.f8.params.toList++Rows.remoteAdmitsSpec.plain.varTypes Tryz.prog).any (Tryz.prog.loopsFrom ·)))=true:=by kernel_rfl
theorem XT:((Rows.remoteAdmitsRow.wideKeys==(Tryz.f8.params.toList++Rows.remoteAdmitsSpec.plain.varTypes Tryz.prog++Tryz.f8.resultTypes.toList).any (Tryz.prog.wideKeysFrom ·)))=true:=by kernel_rfl
theorem XU:(Rows.remoteAdmitsSpec.vars.all (Tryz.prog.varReadable ·))=true:=by kernel_rfl
theorem XV:(Tryz.f8.resultTypes.all (fun t=>Tryz.prog.readableRec t&&decide (t<Tryz.prog.types.size)))=true:=by kernel_rfl
theorem XW:((Rows.remoteAdmitsRow.ifacesOut==Tryz.f8.resultTypes.toList.any (Tryz.prog.ifacesRec ·)))=true:=by kernel_rfl
theorem XX:((Rows.remoteAdmitsRow.loopsOut==Tryz.f8.resultTypes.toList.any (Tryz.prog.loopsFrom ·)))=true:=by kernel_rfl
theorem XY:((Rows.remoteAdmitsRow.plainKeys==Tryz.prog.plainKeys))=true:=by kernel_rfl
theorem XZ:(Rows.remoteAdmitsRow.shortTexts.isNone)=true:=by kernel_rfl
theorem X0:(Tryz.prog.stopsHeard)=true:=by kernel_rfl
theorem X1:(Tryz.prog.mayEnter)=true:=by kernel_rfl
theorem X2:((Rows.remoteAdmitsRow.lifted==Tryz.prog.liftsFinal))=true:=by kernel_rfl
theorem X3:((Tryz.prog.make==some Rows.remoteAdmitsRow.make))=true:=by kernel_rfl
theorem X4:((Rows.remoteAdmitsRow.kinds==(if Rows.remoteAdmitsRow.domain.isEmpty then[]else Tryz.f8.params.toList.map fun t=>match Tryz.prog.underlying t with|some (.int k)=>some k|_=>none)))=true:=by kernel_rfl
theorem X5:((Rows.remoteAdmitsRow.pinned==Rows.remoteAdmitsRow.pinnedBy))=true:=by kernel_rfl
theorem X6:((Rows.remoteAdmitsRow.veiled==(Tryz.f8.params.toList++Rows.remoteAdmitsSpec.plain.varTypes Tryz.prog++Tryz.f8.resultTypes.toList).any (Tryz.prog.veiledRec ·)))=true:=by kernel_rfl
theorem X7:(Rows.remoteAdmitsRow.veiledFits Tryz.prog Tryz.f8.params.toList (Tryz.f8.params.toList++Rows.remoteAdmitsSpec.plain.varTypes Tryz.prog++Tryz.f8.resultTypes.toList))=true:=by kernel_rfl
theorem Qb:Tryz.prog.funcNamed Rows.remoteAdmitsRow.func=some 8:=by kernel_rfl
theorem X8:Tryz.f8.isInstance Tryz.prog Rows.remoteAdmitsRow.origin Rows.remoteAdmitsRow.targs:=of_decide_eq_true (by kernel_rfl)
theorem X9:Tryz.f8.isWrapper Tryz.prog Rows.remoteAdmitsRow.wrapper Rows.remoteAdmitsRow.mainSum:=by
 unfold Func.isWrapper
 first|(rw[if_pos (by decide+kernel)];kernel_rfl)|(rw[if_neg (by decide+kernel)];exact⟨rfl,rfl⟩)
theorem Ya:Rows.remoteAdmitsRow.wfByText (OpenSpec.ofChange Rows.remoteAdmitsSpec)=true:=by kernel_rfl
theorem Yb:Tryz.prog.mainIs=some (true,("dc999d89185705428c5669d199ba14a837be99a9d4a57d504c6aad46080d6c14" :String).toList):=by kernel_rfl
theorem Yc:true=Tryz.prog.looks []:=by kernel_rfl
theorem Yd:false=Rows.remoteAdmitsRow.goesBy Tryz.prog:=by kernel_rfl
theorem Ye:([70].all fun u=>!Tryz.prog.wantsStandIn u)=true:=by kernel_rfl
end Go.Proofs.YtmkpmgfieagphaaGreatDoor
