/- What the row of scriptBack asks of the program. Conditions: none. -/
import Derived.Test.YtmkpmgfieagphaaDoorCards
import Derived.JoinedOf
import Derived.SevenTiedAt
open Go Go.Proofs
namespace Go.Proofs.YtmkpmgfieagphaaDoor
theorem Oz:(Rows.scriptBackRow.wf (OpenSpec.ofChange Rows.scriptBackSpec))=true:=by kernel_rfl
theorem OA:(laidOutB Tryd.prog)=true:=by kernel_rfl
theorem OB:(mapsRowed Tryd.prog)=true:=by kernel_rfl
theorem OC:(Tryd.f3.params.all (Tryd.prog.readableRec ·))=true:=by kernel_rfl
theorem OD:(namedTie Tryd.prog Rows.scriptBackRow.named Rows.scriptBackSpec.vars)=true:=by kernel_rfl
theorem OE:((Rows.scriptBackRow.stops==[]))=true:=by kernel_rfl
theorem OF:((Tryd.prog.stops==[]))=true:=by kernel_rfl
theorem OG:((Rows.scriptBackRow.knobs==[]))=true:=by kernel_rfl
theorem OH:((Tryd.prog.stopKnobs==[]))=true:=by kernel_rfl
theorem OI:((Rows.scriptBackRow.inPlace==Tryd.prog.inPlace 3))=true:=by kernel_rfl
theorem OJ:((Rows.scriptBackRow.unfollowed==Tryd.prog.unfollowed 3))=true:=by kernel_rfl
theorem OK:((Rows.scriptBackRow.recurses==Tryd.prog.recurses 3))=true:=by kernel_rfl
theorem OL:((Rows.scriptBackRow.named==Tryd.prog.varsNamed 3))=true:=by kernel_rfl
theorem OM:((Rows.scriptBackRow.maps==(Tryd.f3.params.toList++Rows.scriptBackSpec.plain.varTypes Tryd.prog).any (Tryd.prog.mapsRec ·)))=true:=by kernel_rfl
theorem ON:((Rows.scriptBackRow.ifaces==(Tryd.f3.params.toList++Rows.scriptBackSpec.plain.varTypes Tryd.prog).any (Tryd.prog.ifacesRec ·)))=true:=by kernel_rfl
theorem OO:((Rows.scriptBackRow.mapsOut==Tryd.prog.mapsAmong Tryd.f3.resultTypes.toList))=true:=by kernel_rfl
theorem OP:((Rows.scriptBackRow.loops==(Tryd.f3.params.toList++Rows.scriptBackSpec.plain.varTypes Tryd.prog).any (Tryd.prog.loopsFrom ·)))=true:=by kernel_rfl
theorem OQ:((Rows.scriptBackRow.wideKeys==(Tryd.f3.params.toList++Rows.scriptBackSpec.plain.varTypes Tryd.prog++Tryd.f3.resultTypes.toList).any (Tryd.prog.wideKeysFrom ·)))=true:=by kernel_rfl
theorem OR:(Rows.scriptBackSpec.vars.all (Tryd.prog.varReadable ·))=true:=by kernel_rfl
theorem OS:(Tryd.f3.resultTypes.all (fun t=>Tryd.prog.readableRec t&&decide (t<Tryd.prog.types.size)))=true:=by kernel_rfl
theorem OT:((Rows.scriptBackRow.ifacesOut==Tryd.f3.resultTypes.toList.any (Tryd.prog.ifacesRec ·)))=true:=by kernel_rfl
theorem OU:((Rows.scriptBackRow.loopsOut==Tryd.f3.resultTypes.toList.any (Tryd.prog.loopsFrom ·)))=true:=by kernel_rfl
theorem OV:((Rows.scriptBackRow.plainKeys==Tryd.prog.plainKeys))=true:=by kernel_rfl
theorem OW:(Rows.scriptBackRow.shortTexts.isNone)=true:=by kernel_rfl
theorem OX:(Tryd.prog.stopsHeard)=true:=by kernel_rfl
theorem OY:(Tryd.prog.mayEnter)=true:=by kernel_rfl
theorem OZ:((Rows.scriptBackRow.lifted==Tryd.prog.liftsFinal))=true:=by kernel_rfl
theorem O0:((Tryd.prog.make==some Rows.scriptBackRow.make))=true:=by kernel_rfl
theorem O1:((Rows.scriptBackRow.kinds==(if Rows.scriptBackRow.domain.isEmpty then[]else Tryd.f3.params.toList.map fun t=>match Tryd.prog.underlying t with|some (.int k)=>some k|_=>none)))=true:=by kernel_rfl
theorem O2:((Rows.scriptBackRow.pinned==Rows.scriptBackRow.pinnedBy))=true:=by kernel_rfl
theorem O3:((Rows.scriptBackRow.veiled==(Tryd.f3.params.toList++Rows.scriptBackSpec.plain.varTypes Tryd.prog++Tryd.f3.resultTypes.toList).any (Tryd.prog.veiledRec ·)))=true:=by kernel_rfl
theorem O4:(Rows.scriptBackRow.veiledFits Tryd.prog Tryd.f3.params.toList (Tryd.f3.params.toList++Rows.scriptBackSpec.plain.varTypes Tryd.prog++Tryd.f3.resultTypes.toList))=true:=by kernel_rfl
theorem HY:Tryd.prog.funcNamed Rows.scriptBackRow.func=some 3:=by kernel_rfl
theorem O5:Tryd.f3.isInstance Tryd.prog Rows.scriptBackRow.origin Rows.scriptBackRow.targs:=of_decide_eq_true (by kernel_rfl)
theorem O6:Tryd.f3.isWrapper Tryd.prog Rows.scriptBackRow.wrapper Rows.scriptBackRow.mainSum:=by
 unfold Func.isWrapper
 first|(rw[if_pos (by decide+kernel)];kernel_rfl)|(rw[if_neg (by decide+kernel)];exact⟨rfl,rfl⟩)
theorem O7:Rows.scriptBackRow.wfByText (OpenSpec.ofChange Rows.scriptBackSpec)=true:=by kernel_rfl
theorem O8:Tryd.prog.mainIs=some (true,("b493a4a7311b67d3506a6f83e413194d3e237c99c90cc0611dbbf2d5253dcc23" :String).toList):=by kernel_rfl
theorem O9:false=Tryd.prog.looks []:=by kernel_rfl
theorem Pa:false=Rows.scriptBackRow.goesBy Tryd.prog:=by kernel_rfl
theorem Pb:([22,9].all fun u=>!Tryd.prog.wantsStandIn u)=true:=by kernel_rfl
end Go.Proofs.YtmkpmgfieagphaaDoor
