/- What the row of scriptTexts asks of the program. Conditions: none. -/
import Derived.Test.YtmkpmgfieagphaaGreatDoorCards
import Derived.JoinedOf
import Derived.SevenTiedAt
open Go Go.Proofs
namespace Go.Proofs.YtmkpmgfieagphaaGreatDoor
theorem SK:(Rows.scriptTextsRow.wf (OpenSpec.ofChange Rows.scriptTextsSpec))=true:=by kernel_rfl
theorem SL:(laidOutB Tryz.prog)=true:=by kernel_rfl
theorem SM:(mapsRowed Tryz.prog)=true:=by kernel_rfl
theorem SN:(Tryz.f5.params.all (Tryz.prog.readableRec ·))=true:=by kernel_rfl
theorem SO:(namedTie Tryz.prog Rows.scriptTextsRow.named Rows.scriptTextsSpec.vars)=true:=by kernel_rfl
theorem SP:((Rows.scriptTextsRow.stops==[]))=true:=by kernel_rfl
theorem SQ:((Tryz.prog.stops==[]))=true:=by kernel_rfl
theorem SR:((Rows.scriptTextsRow.knobs==[]))=true:=by kernel_rfl
theorem SS:((Tryz.prog.stopKnobs==[]))=true:=by kernel_rfl
theorem SU:((Rows.scriptTextsRow.inPlace==Tryz.prog.inPlace 5))=true:=by kernel_rfl
theorem SV:((Rows.scriptTextsRow.unfollowed==Tryz.prog.unfollowed 5))=true:=by kernel_rfl
theorem SW:((Rows.scriptTextsRow.recurses==Tryz.prog.recurses 5))=true:=by kernel_rfl
theorem SX:((Rows.scriptTextsRow.named==Tryz.prog.varsNamed 5))=true:=by kernel_rfl
theorem SY:((Rows.scriptTextsRow.maps==(Tryz.f5.params.toList++Rows.scriptTextsSpec.plain.varTypes Tryz.prog).any (Tryz.prog.mapsRec ·)))=true:=by kernel_rfl
theorem SZ:((Rows.scriptTextsRow.ifaces==(Tryz.f5.params.toList++Rows.scriptTextsSpec.plain.varTypes Tryz.prog).any (Tryz.prog.ifacesRec ·)))=true:=by kernel_rfl
theorem S1:((Rows.scriptTextsRow.mapsOut==Tryz.prog.mapsAmong Tryz.f5.resultTypes.toList))=true:=by kernel_rfl
theorem S2:((Rows.scriptTextsRow.loops==(Tryz.f5.params.toList++Rows.scriptTextsSpec.plain.varTypes Tryz.prog).any (Tryz.prog.loopsFrom ·)))=true:=by kernel_rfl
theorem S3:((Rows.scriptTextsRow.wideKeys==(Tryz.f5.params.toList++Rows.scriptTextsSpec.plain.varTypes Tryz.prog++Tryz.f5.resultTypes.toList).any (Tryz.prog.wideKeysFrom ·)))=true:=by kernel_rfl
theorem S4:(Rows.scriptTextsSpec.vars.all (Tryz.prog.varReadable ·))=true:=by kernel_rfl
theorem S5:(Tryz.f5.resultTypes.all (fun t=>Tryz.prog.readableRec t&&decide (t<Tryz.prog.types.size)))=true:=by kernel_rfl
theorem S6:((Rows.scriptTextsRow.ifacesOut==Tryz.f5.resultTypes.toList.any (Tryz.prog.ifacesRec ·)))=true:=by kernel_rfl
theorem S7:((Rows.scriptTextsRow.loopsOut==Tryz.f5.resultTypes.toList.any (Tryz.prog.loopsFrom ·)))=true:=by kernel_rfl
theorem S8:((Rows.scriptTextsRow.plainKeys==Tryz.prog.plainKeys))=true:=by kernel_rfl
theorem S9:(Rows.scriptTextsRow.shortTexts.isNone)=true:=by kernel_rfl
theorem Ta:(Tryz.prog.stopsHeard)=true:=by kernel_rfl
theorem Tb:(Tryz.prog.mayEnter)=true:=by kernel_rfl
theorem Tc:((Rows.scriptTextsRow.lifted==Tryz.prog.liftsFinal))=true:=by kernel_rfl
theorem Td:((Tryz.prog.make==some Rows.scriptTextsRow.make))=true:=by kernel_rfl
theorem Te:((Rows.scriptTextsRow.kinds==(if Rows.scriptTextsRow.domain.isEmpty then[]else Tryz.f5.params.toList.map fun t=>match Tryz.prog.underlying t with|some (.int k)=>some k|_=>none)))=true:=by kernel_rfl
theorem Tf:((Rows.scriptTextsRow.pinned==Rows.scriptTextsRow.pinnedBy))=true:=by kernel_rfl
theorem Tg:((Rows.scriptTextsRow.veiled==(Tryz.f5.params.toList++Rows.scriptTextsSpec.plain.varTypes Tryz.prog++Tryz.f5.resultTypes.toList).any (Tryz.prog.veiledRec ·)))=true:=by kernel_rfl
theorem Th:(Rows.scriptTextsRow.veiledFits Tryz.prog Tryz.f5.params.toList (Tryz.f5.params.toList++Rows.scriptTextsSpec.plain.varTypes Tryz.prog++Tryz.f5.resultTypes.toList))=true:=by kernel_rfl
theorem Lu:Tryz.prog.funcNamed Rows.scriptTextsRow.func=some 5:=by kernel_rfl
theorem Ti:Tryz.f5.isInstance Tryz.prog Rows.scriptTextsRow.origin Rows.scriptTextsRow.targs:=of_decide_eq_true (by kernel_rfl)
theorem Tj:Tryz.f5.isWrapper Tryz.prog Rows.scriptTextsRow.wrapper Rows.scriptTextsRow.mainSum:=by
 unfold Func.isWrapper
 first|(rw[if_pos (by decide+kernel)];kernel_rfl)|(rw[if_neg (by decide+kernel)];exact⟨rfl,rfl⟩)
theorem Tk:Rows.scriptTextsRow.wfByText (OpenSpec.ofChange Rows.scriptTextsSpec)=true:=by kernel_rfl
theorem Tl:Tryz.prog.mainIs=some (true,("dc999d89185705428c5669d199ba14a837be99a9d4a57d504c6aad46080d6c14" :String).toList):=by kernel_rfl
theorem Tm:true=Tryz.prog.looks []:=by kernel_rfl
theorem Tn:false=Rows.scriptTextsRow.goesBy Tryz.prog:=by kernel_rfl
theorem To:([42,9].all fun u=>!Tryz.prog.wantsStandIn u)=true:=by kernel_rfl
end Go.Proofs.YtmkpmgfieagphaaGreatDoor
