/- The statement ScriptTexts holds. Conditions: none but those of the given card. -/
import Derived.Test.YtmkpmgfieagphaaGreatDoorRBr
import Derived.Test.YtmkpmgfieagphaaGreatDoorRLTexts
import Derived.Test.YtmkpmgfieagphaaGreatDoorRFTexts
import Derived.Test.YtmkpmgfieagphaaGreatDoorCards
import Derived.Test.YtmkpmgfieagphaaGreatDoorTie
open Go Go.aM Go.ed Go.Proofs Go.ChangeShapes Go.WideShapes Go.ChangeAt Go.WideMaps Go.WideElems Go.RowKit
namespace Go.Proofs.YtmkpmgfieagphaaGreatDoor
theorem zdr:ck b0 Aw 5 o6:=by
 have h:=(XO (G:=Aw) NR (FD rfl) FK).c ⟨5,88,[.li .aK,.str],[.bool],false⟩ (List.mem_of_getElem? (i:=73) (by kernel_rfl))
 exact(show eN a1.d vI (⟨5,88,[.li .aK,.str],[.bool],false⟩:hU).j=o6 by kernel_rfl) ▸ h.2.2.1
set_option maxRecDepth 100000 in
set_option maxHeartbeats 4000000 in
theorem zds(os:Os)(started:os.Started)(H:Type)(enc:TypeId × Value→H):
 ReturnsInHanded {} Tryz.checked os 5 .any (fun w args=>(Rows.scriptTextsSpec.pre enc Tryz.prog Tryz.f5 [] false w args∧laidMetH Tryz.prog u9 w)∧sizedMet enc Tryz.prog Tryz.f5 (OpenSpec.ofChange Rows.scriptTextsSpec) false w args)
  (Rows.scriptTextsSpec.post enc Tryz.prog Tryz.f5 false true false false):=by
 refine returnsInHanded_of_change_and (C:=Tryz.checked) (X:=fun w _=>laidMetH Tryz.prog u9 w) (fun _ _ _ aX h=>h.of_heap aX) own started (by kernel_rfl) Tryz.func5
  (ChangeSpec.witness_shaped (enc:=enc) (C:=Tryz.checked) (os:=os) (X:=fun w _=>laidMetH Tryz.prog u9 w) false (World.doorLaid Tryz.prog 400 os) #[.slice none 0 0,.string ByteArray.empty] 20 rfl (World.shaped_of_RefB (by kernel_rfl) (by kernel_rfl)) (by kernel_rfl) (by kernel_rfl) (by kernel_rfl) (SH os _)) ?_
 intro W base args ds gs before yT sZ _ fg fG _
 have Lt:Tryz.f5.params.toList=[42,9]:=by rw[Tryz.params5]
 exact zdi (T:=yl) sZ rfl (fun ds ao=>by rw[Lt]at ao;match ds,ao with|[d0,d1],_=>rfl) fg yT rfl (by kernel_rfl) (tb:=4) (by kernel_rfl) kids full (by rw[Lt];decide) (m:=o6) (by rw[Lt];kernel_rfl) (SJ fG) zdr TC
set_option maxRecDepth 100000 in
set_option maxHeartbeats 4000000 in
theorem zdt:joinedFacts Tryz.prog 5 Tryz.f5 Rows.scriptTextsSpec Rows.scriptTextsRow=true:=by
 unfold joinedFacts
 simp only[Bool.and_eq_true]
 exact⟨⟨⟨⟨⟨⟨⟨⟨⟨⟨⟨⟨⟨⟨⟨⟨⟨⟨⟨⟨⟨⟨⟨⟨⟨⟨⟨⟨⟨⟨⟨SK,SL⟩,SM⟩,SN⟩,SO⟩,SP⟩,SQ⟩,SR⟩,SS⟩,SU⟩,SV⟩,SW⟩,SX⟩,SY⟩,SZ⟩,S1⟩,S2⟩,S3⟩,S4⟩,S5⟩,S6⟩,S7⟩,S8⟩,S9⟩,Ta⟩,Tb⟩,Tc⟩,Td⟩,Te⟩,Tf⟩,Tg⟩,Th⟩
set_option maxRecDepth 100000 in
set_option maxHeartbeats 4000000 in
theorem zdu:Rows.ScriptTextsSaid:=
 OpenClaim.holds_of_wide 5 Tryz.f5 rfl rfl rfl rfl rfl rfl rfl ⟨rfl,rfl,rfl,rfl,rfl⟩ rfl rfl rfl rfl rfl Lu Tryz.func5 zdt
  Ti Tj
  (fun os started H enc _=>zds os started H enc)
set_option maxRecDepth 100000 in
set_option maxHeartbeats 4000000 in
theorem scriptTexts_holds:Rows.ScriptTextsCardSaid:=
 Claim7.holds_tied_plain_at .later [] [.data,.data,.data] true (true, "dc999d89185705428c5669d199ba14a837be99a9d4a57d504c6aad46080d6c14") true
  zdu (fun _ h=>by cases h) Tk (fun _ h=>by cases h) scriptTexts_row_tie rfl ⟨rfl,rfl⟩ Tl rfl
  (fun f fn hf uN=>by
   obtain rfl:f=5:=Option.some.inj (Lu.symm.trans hf) |>.symm
   obtain rfl:fn=Tryz.f5:=(Option.some.inj (Tryz.func5.symm.trans uN)).symm
   exact⟨Tm,fun j t aG=>by
    rw[Tryz.params5]at aG
    have hm:t∈[42,9]:=by simpa using Array.mem_of_getElem? aG
    exact(show Tryz.prog.wantsStandIn t=false by simpa using List.all_eq_true.1 To t hm)⟩)
  Tn
#print axioms scriptTexts_holds
end Go.Proofs.YtmkpmgfieagphaaGreatDoor
