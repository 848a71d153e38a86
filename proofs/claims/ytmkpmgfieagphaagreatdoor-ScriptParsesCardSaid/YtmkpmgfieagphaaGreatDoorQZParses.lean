/- The statement ScriptParses holds. Conditions: none but those of the given card. -/
import Derived.Test.YtmkpmgfieagphaaGreatDoorQBr
import Derived.Test.YtmkpmgfieagphaaGreatDoorQLParses
import Derived.Test.YtmkpmgfieagphaaGreatDoorQFParses
import Derived.Test.YtmkpmgfieagphaaGreatDoorCards
import Derived.Test.YtmkpmgfieagphaaGreatDoorTie
open Go Go.aL Go.ei Go.Proofs Go.ChangeShapes Go.WideShapes Go.ChangeAt Go.WideMaps Go.WideElems Go.RowKit
namespace Go.Proofs.YtmkpmgfieagphaaGreatDoor
theorem zcz:cp b0 Al 4 oZ:=by
 have h:=(WV (G:=Al) Nd (Fc rfl) Fk).c ⟨4,84,[.str],[.bool],false⟩ (List.mem_of_getElem? (i:=69) (by kernel_rfl))
 exact(show eJ aW.d vB (⟨4,84,[.str],[.bool],false⟩:hR).j=oZ by kernel_rfl) ▸ h.2.2.1
set_option maxRecDepth 100000 in
set_option maxHeartbeats 4000000 in
theorem zcA(os:Os)(started:os.Started)(H:Type)(enc:TypeId × Value→H):
 ReturnsInHanded {} Tryz.checked os 4 .any (fun w args=>(Rows.scriptParsesSpec.pre enc Tryz.prog Tryz.f4 [] false w args∧laidMetH Tryz.prog uZ w)∧sizedMet enc Tryz.prog Tryz.f4 (OpenSpec.ofChange Rows.scriptParsesSpec) false w args)
  (Rows.scriptParsesSpec.post enc Tryz.prog Tryz.f4 false true false false):=by
 refine returnsInHanded_of_change_and (C:=Tryz.checked) (X:=fun w _=>laidMetH Tryz.prog uZ w) (fun _ _ _ a8 h=>h.of_heap a8) own started (by kernel_rfl) Tryz.func4
  (ChangeSpec.witness_shaped (enc:=enc) (C:=Tryz.checked) (os:=os) (X:=fun w _=>laidMetH Tryz.prog uZ w) false (World.doorLaid Tryz.prog 400 os) #[.string ByteArray.empty] 20 rfl (World.shaped_of_RefB (by kernel_rfl) (by kernel_rfl)) (by kernel_rfl) (by kernel_rfl) (by kernel_rfl) (R7 os _)) ?_
 intro W base args ds gs before yI sS _ e9 fA _
 have K2:Tryz.f4.params.toList=[9]:=by rw[Tryz.params4]
 exact zcq (T:=ya) sS rfl (fun ds ao=>by rw[K2]at ao;match ds,ao with|[d0],_=>rfl) e9 yI rfl (by kernel_rfl) (tb:=4) (by kernel_rfl) kids full (by rw[K2];decide) (m:=oZ) (by rw[K2];kernel_rfl) (R9 fA) zcz SW
set_option maxRecDepth 100000 in
set_option maxHeartbeats 4000000 in
theorem zcB:joinedFacts Tryz.prog 4 Tryz.f4 Rows.scriptParsesSpec Rows.scriptParsesRow=true:=by
 unfold joinedFacts
 simp only[Bool.and_eq_true]
 exact⟨⟨⟨⟨⟨⟨⟨⟨⟨⟨⟨⟨⟨⟨⟨⟨⟨⟨⟨⟨⟨⟨⟨⟨⟨⟨⟨⟨⟨⟨⟨Sa,Sb⟩,Sc⟩,Sd⟩,Se⟩,Sf⟩,Sg⟩,Sh⟩,Si⟩,Sj⟩,Sk⟩,Sl⟩,Sm⟩,Sn⟩,So⟩,Sp⟩,Sq⟩,Sr⟩,Ss⟩,St⟩,Su⟩,Sv⟩,Sw⟩,Sx⟩,Sy⟩,Sz⟩,SA⟩,SB⟩,SC⟩,SD⟩,SE⟩,SF⟩
set_option maxRecDepth 100000 in
set_option maxHeartbeats 4000000 in
theorem zcC:Rows.ScriptParsesSaid:=
 OpenClaim.holds_of_wide 4 Tryz.f4 rfl rfl rfl rfl rfl rfl rfl ⟨rfl,rfl,rfl,rfl,rfl⟩ rfl rfl rfl rfl rfl K3 Tryz.func4 zcB
  SG SH
  (fun os started H enc _=>zcA os started H enc)
set_option maxRecDepth 100000 in
set_option maxHeartbeats 4000000 in
theorem scriptParses_holds:Rows.ScriptParsesCardSaid:=
 Claim7.holds_tied_plain_at .later [] [.data,.data,.data] true (true, "dc999d89185705428c5669d199ba14a837be99a9d4a57d504c6aad46080d6c14") true
  zcC (fun _ h=>by cases h) SI (fun _ h=>by cases h) scriptParses_row_tie rfl ⟨rfl,rfl⟩ SJ rfl
  (fun f fn hf uE=>by
   obtain rfl:f=4:=Option.some.inj (K3.symm.trans hf) |>.symm
   obtain rfl:fn=Tryz.f4:=(Option.some.inj (Tryz.func4.symm.trans uE)).symm
   exact⟨SK,fun j t aG=>by
    rw[Tryz.params4]at aG
    have hm:t∈[9]:=by simpa using Array.mem_of_getElem? aG
    exact(show Tryz.prog.wantsStandIn t=false by simpa using List.all_eq_true.1 SM t hm)⟩)
  SL
#print axioms scriptParses_holds
end Go.Proofs.YtmkpmgfieagphaaGreatDoor
