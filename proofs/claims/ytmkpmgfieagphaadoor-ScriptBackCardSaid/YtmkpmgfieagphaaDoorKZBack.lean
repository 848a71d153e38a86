/- The statement ScriptBack holds. Conditions: none but those of the given card. -/
import Derived.Test.YtmkpmgfieagphaaDoorKBr
import Derived.Test.YtmkpmgfieagphaaDoorKLBack
import Derived.Test.YtmkpmgfieagphaaDoorKFBack
import Derived.Test.YtmkpmgfieagphaaDoorCards
import Derived.Test.YtmkpmgfieagphaaDoorTie
open Go Go.aG Go.du Go.Proofs Go.ChangeShapes Go.WideShapes Go.ChangeAt Go.WideMaps Go.WideElems Go.RowKit
namespace Go.Proofs.YtmkpmgfieagphaaDoor
theorem X8:df cN yf 3 nT:=by
 have h:=(RP (G:=yf) QR (Co rfl)).c ⟨3,51,[.li .aT,.str],[.bool],false⟩ (List.mem_of_getElem? (i:=43) (by kernel_rfl))
 exact(show en bc.d s8 (⟨3,51,[.li .aT,.str],[.bool],false⟩:hs).j=nT by kernel_rfl) ▸ h.2.2.1
set_option maxRecDepth 100000 in
set_option maxHeartbeats 4000000 in
theorem X9(os:Os)(started:os.Started)(H:Type)(enc:TypeId × Value→H):
 ReturnsInHanded {} Tryd.checked os 3 .any (fun w args=>(Rows.scriptBackSpec.pre enc Tryd.prog Tryd.f3 [] false w args∧laidMetH Tryd.prog sM w)∧sizedMet enc Tryd.prog Tryd.f3 (OpenSpec.ofChange Rows.scriptBackSpec) false w args)
  (Rows.scriptBackSpec.post enc Tryd.prog Tryd.f3 false true false false):=by
 refine returnsInHanded_of_change_and (C:=Tryd.checked) (X:=fun w _=>laidMetH Tryd.prog sM w) (fun _ _ _ aV h=>h.of_heap aV) own started (by kernel_rfl) Tryd.func3
  (ChangeSpec.witness_shaped (enc:=enc) (C:=Tryd.checked) (os:=os) (X:=fun w _=>laidMetH Tryd.prog sM w) false (World.doorLaid Tryd.prog 400 os) #[.slice none 0 0,.string ByteArray.empty] 20 rfl (World.shaped_of_RefB (by kernel_rfl) (by kernel_rfl)) (by kernel_rfl) (by kernel_rfl) (by kernel_rfl) (Ow os _)) ?_
 intro W base args ds gs before wo q7 _ eV fm _
 have HX:Tryd.f3.params.toList=[22,9]:=by rw[Tryd.params3]
 exact W4 (T:=Ct) q7 rfl (fun ds an=>by rw[HX]at an;match ds,an with|[d0,d1],_=>rfl) eV wo rfl (by kernel_rfl) (tb:=4) (by kernel_rfl) kids full (by rw[HX];decide) (m:=nT) (by rw[HX];kernel_rfl) (Oy fm) X8 Po
set_option maxRecDepth 100000 in
set_option maxHeartbeats 4000000 in
theorem Ya:joinedFacts Tryd.prog 3 Tryd.f3 Rows.scriptBackSpec Rows.scriptBackRow=true:=by
 unfold joinedFacts
 simp only[Bool.and_eq_true]
 exact⟨⟨⟨⟨⟨⟨⟨⟨⟨⟨⟨⟨⟨⟨⟨⟨⟨⟨⟨⟨⟨⟨⟨⟨⟨⟨⟨⟨⟨⟨⟨Oz,OA⟩,OB⟩,OC⟩,OD⟩,OE⟩,OF⟩,OG⟩,OH⟩,OI⟩,OJ⟩,OK⟩,OL⟩,OM⟩,ON⟩,OO⟩,OP⟩,OQ⟩,OR⟩,OS⟩,OT⟩,OU⟩,OV⟩,OW⟩,OX⟩,OY⟩,OZ⟩,O0⟩,O1⟩,O2⟩,O3⟩,O4⟩
set_option maxRecDepth 100000 in
set_option maxHeartbeats 4000000 in
theorem Yb:Rows.ScriptBackSaid:=
 OpenClaim.holds_of_wide 3 Tryd.f3 rfl rfl rfl rfl rfl rfl rfl ⟨rfl,rfl,rfl,rfl,rfl⟩ rfl rfl rfl rfl rfl HY Tryd.func3 Ya
  O5 O6
  (fun os started H enc _=>X9 os started H enc)
set_option maxRecDepth 100000 in
set_option maxHeartbeats 4000000 in
theorem scriptBack_holds:Rows.ScriptBackCardSaid:=
 Claim7.holds_tied_plain_at .later [] [.data,.data,.data] true (true, "b493a4a7311b67d3506a6f83e413194d3e237c99c90cc0611dbbf2d5253dcc23") false
  Yb (fun _ h=>by cases h) O7 (fun _ h=>by cases h) scriptBack_row_tie rfl ⟨rfl,rfl⟩ O8 rfl
  (fun f fn hf sj=>by
   obtain rfl:f=3:=Option.some.inj (HY.symm.trans hf) |>.symm
   obtain rfl:fn=Tryd.f3:=(Option.some.inj (Tryd.func3.symm.trans sj)).symm
   exact⟨O9,fun j t aB=>by
    rw[Tryd.params3]at aB
    have hm:t∈[22,9]:=by simpa using Array.mem_of_getElem? aB
    exact(show Tryd.prog.wantsStandIn t=false by simpa using List.all_eq_true.1 Pb t hm)⟩)
  Pa
#print axioms scriptBack_holds
end Go.Proofs.YtmkpmgfieagphaaDoor
