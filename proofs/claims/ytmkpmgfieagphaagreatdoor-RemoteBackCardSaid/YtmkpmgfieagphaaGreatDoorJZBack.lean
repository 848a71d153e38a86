/- The statement RemoteBack holds. Conditions: none but those of the given card. -/
import Derived.Test.YtmkpmgfieagphaaGreatDoorJBr
import Derived.Test.YtmkpmgfieagphaaGreatDoorJLBack
import Derived.Test.YtmkpmgfieagphaaGreatDoorJFBack
import Derived.Test.YtmkpmgfieagphaaGreatDoorCards
import Derived.Test.YtmkpmgfieagphaaGreatDoorTie
open Go Go.aM Go.eQ Go.Proofs Go.ChangeShapes Go.WideShapes Go.ChangeAt Go.WideMaps Go.WideElems Go.RowKit
namespace Go.Proofs.YtmkpmgfieagphaaGreatDoor
theorem zii:bG bj yh 9 pN:=by
 have h:=(zb0 (G:=yh) PX ZR ZS Zo Zs Zw (ZN PX Vu)).c ⟨9,126,[.st .Home,.st .bK,.str],[.bool],false⟩ (List.mem_of_getElem? (i:=118) (by kernel_rfl))
 exact(show e3 aS.d wx (⟨9,126,[.st .Home,.st .bK,.str],[.bool],false⟩:iu).j=pN by kernel_rfl) ▸ h.2.2.1
set_option maxRecDepth 100000 in
set_option maxHeartbeats 4000000 in
theorem zij(os:Os)(started:os.Started)(H:Type)(enc:TypeId × Value→H):
 ReturnsInHanded {} Tryz.checked os 9 .any (fun w args=>(Rows.remoteBackSpec.pre enc Tryz.prog Tryz.f9 [] false w args∧laidMetH Tryz.prog yg w)∧sizedMet enc Tryz.prog Tryz.f9 (OpenSpec.ofChange Rows.remoteBackSpec) false w args)
  (Rows.remoteBackSpec.post enc Tryz.prog Tryz.f9 false true false false):=by
 refine returnsInHanded_of_change_and (C:=Tryz.checked) (X:=fun w _=>laidMetH Tryz.prog yg w) (fun _ _ _ bb h=>h.of_heap bb) own started (by kernel_rfl) Tryz.func9
  (ChangeSpec.witness_shaped (enc:=enc) (C:=Tryz.checked) (os:=os) (X:=fun w _=>laidMetH Tryz.prog yg w) false (World.doorLaid Tryz.prog 400 os) #[.agg #[.slice none 0 0,.slice none 0 0],.agg #[.int .i64 0,.int .i64 0,.int .i64 0,.string ByteArray.empty,.string ByteArray.empty,.string ByteArray.empty,.int .i64 0,.int .i64 0,.string ByteArray.empty,.string ByteArray.empty],.string ByteArray.empty] 20 rfl (World.shaped_of_RefB (by kernel_rfl) (by kernel_rfl)) (by kernel_rfl) (by kernel_rfl) (by kernel_rfl) (Vr os _)) ?_
 intro W base args ds gs before sQ h7 _ fv fS _
 have Oa:Tryz.f9.params.toList=[51,29,9]:=by rw[Tryz.params9]
 exact zg9 (T:=wi) h7 rfl (fun ds ar=>by rw[Oa]at ar;match ds,ar with|[d0,d1,d2],_=>rfl) fv sQ rfl (by kernel_rfl) (tb:=4) (by kernel_rfl) kids full (by rw[Oa];decide) (m:=pN) (by rw[Oa];kernel_rfl) (Vw fS) zii Wn
set_option maxRecDepth 100000 in
set_option maxHeartbeats 4000000 in
theorem zik:joinedFacts Tryz.prog 9 Tryz.f9 Rows.remoteBackSpec Rows.remoteBackRow=true:=by
 unfold joinedFacts
 simp only[Bool.and_eq_true]
 exact⟨⟨⟨⟨⟨⟨⟨⟨⟨⟨⟨⟨⟨⟨⟨⟨⟨⟨⟨⟨⟨⟨⟨⟨⟨⟨⟨⟨⟨⟨⟨VA,VB⟩,VC⟩,VD⟩,VE⟩,VF⟩,VG⟩,VH⟩,VI⟩,VJ⟩,VK⟩,VL⟩,VM⟩,VN⟩,VO⟩,VP⟩,VQ⟩,VR⟩,VS⟩,VT⟩,VU⟩,VV⟩,VW⟩,VX⟩,VY⟩,VZ⟩,V0⟩,V1⟩,V2⟩,V3⟩,V4⟩,V5⟩
set_option maxRecDepth 100000 in
set_option maxHeartbeats 4000000 in
theorem zil:Rows.RemoteBackSaid:=
 OpenClaim.holds_of_wide 9 Tryz.f9 rfl rfl rfl rfl rfl rfl rfl ⟨rfl,rfl,rfl,rfl,rfl⟩ rfl rfl rfl rfl rfl Oc Tryz.func9 zik
  V6 V7
  (fun os started H enc _=>zij os started H enc)
set_option maxRecDepth 100000 in
set_option maxHeartbeats 4000000 in
theorem remoteBack_holds:Rows.RemoteBackCardSaid:=
 Claim7.holds_tied_plain_at .later [] [.data] true (true, "dc999d89185705428c5669d199ba14a837be99a9d4a57d504c6aad46080d6c14") true
  zil (fun _ h=>by cases h) V8 (fun _ h=>by cases h) remoteBack_row_tie rfl ⟨rfl,rfl⟩ V9 rfl
  (fun f fn hf nM=>by
   obtain rfl:f=9:=Option.some.inj (Oc.symm.trans hf) |>.symm
   obtain rfl:fn=Tryz.f9:=(Option.some.inj (Tryz.func9.symm.trans nM)).symm
   exact⟨Wa,fun j t aI=>by
    rw[Tryz.params9]at aI
    have hm:t∈[51,29,9]:=by simpa using Array.mem_of_getElem? aI
    exact(show Tryz.prog.wantsStandIn t=false by simpa using List.all_eq_true.1 Wc t hm)⟩)
  Wb
#print axioms remoteBack_holds
end Go.Proofs.YtmkpmgfieagphaaGreatDoor
