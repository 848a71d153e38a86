/- What the row of scriptParses asks of the program. Conditions: none. -/
import Derived.Test.YtmkpmgfieagphaaGreatDoorCards
import Derived.JoinedOf
import Derived.SevenTiedAt
open Go Go.Proofs
namespace Go.Proofs.YtmkpmgfieagphaaGreatDoor
theorem Sa:(Rows.scriptParsesRow.wf (OpenSpec.ofChange Rows.scriptParsesSpec))=true:=by kernel_rfl
theorem Sb:(laidOutB Tryz.prog)=true:=by kernel_rfl
theorem Sc:(mapsRowed Tryz.prog)=true:=by kernel_rfl
theorem Sd:(Tryz.f4.params.all (Tryz.prog.readableRec ·))=true:=by kernel_rfl
theorem Se:(namedTie Tryz.prog Rows.scriptParsesRow.named Rows.scriptParsesSpec.vars)=true:=by kernel_rfl
theorem Sf:((Rows.scriptParsesRow.stops==[]))=true:=by kernel_rfl
theorem Sg:((Tryz.prog.stops==[]))=true:=by kernel_rfl
theorem Sh:((Rows.scriptParsesRow.knobs==[]))=true:=by kernel_rfl
theorem Si:((Tryz.prog.stopKnobs==[]))=true:=by kernel_rfl
theorem Sj:((Rows.scriptParsesRow.inPlace==Tryz.prog.inPlace 4))=true:=by kernel_rfl
theorem Sk:((Rows.scriptParsesRow.unfollowed==Tryz.prog.unfollowed 4))=true:=by kernel_rfl
theorem Sl:((Rows.scriptParsesRow.recurses==Tryz.prog.recurses 4))=true:=by kernel_rfl
theorem Sm:((Rows.scriptParsesRow.named==Tryz.prog.varsNamed 4))=true:=by kernel_rfl
theorem Sn:((Rows.scriptParsesRow.maps==(Tryz.f4.params.toList++Rows.scriptParsesSpec.plain.varTypes Tryz.prog).any (Tryz.prog.mapsRec ·)))=true:=by kernel_rfl
theorem So:((Rows.scriptParsesRow.ifaces==(Tryz.f4.params.toList++Rows.scriptParsesSpec.plain.varTypes Tryz.prog).any (Tryz.prog.ifacesRec ·)))=true:=by kernel_rfl
theorem Sp:((Rows.scriptParsesRow.mapsOut==Tryz.prog.mapsAmong Tryz.f4.resultTypes.toList))=true:=by kernel_rfl
theorem Sq:((Rows.scriptParsesRow.loops==(Tryz.f4.params.toList++Rows.scriptParsesSpec.plain.varTypes Tryz.prog).any (Tryz.prog.loopsFrom ·)))=true:=by kernel_rfl
theorem Sr:((Rows.scriptParsesRow.wideKeys==(Tryz.f4.params.toList++Rows.scriptParsesSpec.plain.varTypes Tryz.prog++Tryz.f4.resultTypes.toList).any (Tryz.prog.wideKeysFrom ·)))=true:=by kernel_rfl
theorem Ss:(Rows.scriptParsesSpec.vars.all (Tryz.prog.varReadable ·))=true:=by kernel_rfl
theorem St:(Tryz.f4.resultTypes.all (fun t=>Tryz.prog.readableRec t&&decide (t<Tryz.prog.types.size)))=true:=by kernel_rfl
theorem Su:((Rows.scriptParsesRow.ifacesOut==Tryz.f4.resultTypes.toList.any (Tryz.prog.ifacesRec ·)))=true:=by kernel_rfl
theorem Sv:((Rows.scriptParsesRow.loopsOut==Tryz.f4.resultTypes.toList.any (Tryz.prog.loopsFrom ·)))=true:=by kernel_rfl
theorem Sw:((Rows.scriptParsesRow.plainKeys==Tryz.prog.plainKeys))=true:=by kernel_rfl
theorem Sx:(Rows.scriptParsesRow.shortTexts.isNone)=true:=by kernel_rfl
theorem Sy:(Tryz.prog.stopsHeard)=true:=by kernel_rfl
theorem Sz:(Tryz.prog.mayEnter)=true:=by kernel_rfl
theorem SA:((Rows.scriptParsesRow.lifted==Tryz.prog.liftsFinal))=true:=by kernel_rfl
theorem SB:((Tryz.prog.make==some Rows.scriptParsesRow.make))=true:=by kernel_rfl
theorem SC:((Rows.scriptParsesRow.kinds==(if Rows.scriptParsesRow.domain.isEmpty then[]else Tryz.f4.params.toList.map fun t=>match Tryz.prog.underlying t with|some (.int k)=>some k|_=>none)))=true:=by kernel_rfl
theorem SD:((Rows.scriptParsesRow.pinned==Rows.scriptParsesRow.pinnedBy))=true:=by kernel_rfl
theorem SE:((Rows.scriptParsesRow.veiled==(Tryz.f4.params.toList++Rows.scriptParsesSpec.plain.varTypes Tryz.prog++Tryz.f4.resultTypes.toList).any (Tryz.prog.veiledRec ·)))=true:=by kernel_rfl
theorem SF:(Rows.scriptParsesRow.veiledFits Tryz.prog Tryz.f4.params.toList (Tryz.f4.params.toList++Rows.scriptParsesSpec.plain.varTypes Tryz.prog++Tryz.f4.resultTypes.toList))=true:=by kernel_rfl
theorem K3:Tryz.prog.funcNamed Rows.scriptParsesRow.func=some 4:=by kernel_rfl
theorem SG:Tryz.f4.isInstance Tryz.prog Rows.scriptParsesRow.origin Rows.scriptParsesRow.targs:=of_decide_eq_true (by kernel_rfl)
theorem SH:Tryz.f4.isWrapper Tryz.prog Rows.scriptParsesRow.wrapper Rows.scriptParsesRow.mainSum:=by
 unfold Func.isWrapper
 first|(rw[if_pos (by decide+kernel)];kernel_rfl)|(rw[if_neg (by decide+kernel)];exact⟨rfl,rfl⟩)
theorem SI:Rows.scriptParsesRow.wfByText (OpenSpec.ofChange Rows.scriptParsesSpec)=true:=by kernel_rfl
theorem SJ:Tryz.prog.mainIs=some (true,("dc999d89185705428c5669d199ba14a837be99a9d4a57d504c6aad46080d6c14" :String).toList):=by kernel_rfl
theorem SK:true=Tryz.prog.looks []:=by kernel_rfl
theorem SL:false=Rows.scriptParsesRow.goesBy Tryz.prog:=by kernel_rfl
theorem SM:([9].all fun u=>!Tryz.prog.wantsStandIn u)=true:=by kernel_rfl
end Go.Proofs.YtmkpmgfieagphaaGreatDoor
