/- The statement RemoteBytes holds. Conditions: none but those of the given card. -/
import Derived.Test.YtmkpmgfieagphaaGreatDoorKBr
import Derived.Test.YtmkpmgfieagphaaGreatDoorKLBytes
import Derived.Test.YtmkpmgfieagphaaGreatDoorKFBytes
import Derived.Test.YtmkpmgfieagphaaGreatDoorCards
import Derived.Test.YtmkpmgfieagphaaGreatDoorTie
open Go Go.aK Go.eK Go.Proofs Go.ChangeShapes Go.WideShapes Go.ChangeAt Go.WideMaps Go.WideElems Go.RowKit
namespace Go.Proofs.YtmkpmgfieagphaaGreatDoor
theorem zjr:bI bh tT 7 pK:=by
 have h:=(QO (G:=tT) C4 Qu Qv Qg Qh Qi (Qq C4 OF)).c ⟨7,133,[.st .bs,.str],[.bool],false⟩ (List.mem_of_getElem? (i:=118) (by kernel_rfl))
 exact(show eT aQ.d uO (⟨7,133,[.st .bs,.str],[.bool],false⟩:h9).j=pK by kernel_rfl) ▸ h.2.2.1
set_option maxRecDepth 100000 in
set_option maxHeartbeats 4000000 in
theorem zjs(os:Os)(started:os.Started)(H:Type)(enc:TypeId × Value→H):
 ReturnsInHanded {} Tryz.checked os 7 .any (fun w args=>(Rows.remoteBytesSpec.pre enc Tryz.prog Tryz.f7 [] false w args∧laidMetH Tryz.prog sn w)∧sizedMet enc Tryz.prog Tryz.f7 (OpenSpec.ofChange Rows.remoteBytesSpec) false w args)
  (Rows.remoteBytesSpec.post enc Tryz.prog Tryz.f7 false true false false):=by
 refine returnsInHanded_of_change_and (C:=Tryz.checked) (X:=fun w _=>laidMetH Tryz.prog sn w) (fun _ _ _ ba h=>h.of_heap ba) own started (by kernel_rfl) Tryz.func7
  (ChangeSpec.witness_shaped (enc:=enc) (C:=Tryz.checked) (os:=os) (X:=fun w _=>laidMetH Tryz.prog sn w) false (World.doorLaid Tryz.prog 400 os) #[.agg #[.int .i64 0,.int .i64 0,.int .i64 0,.string ByteArray.empty,.string ByteArray.empty,.string ByteArray.empty,.int .i64 0,.int .i64 0,.string ByteArray.empty,.string ByteArray.empty],.string ByteArray.empty] 20 rfl (World.shaped_of_RefB (by kernel_rfl) (by kernel_rfl)) (by kernel_rfl) (by kernel_rfl) (by kernel_rfl) (OE os _)) ?_
 intro W base args ds gs before qx hE _ fh fK _
 have vS:Tryz.f7.params.toList=[29,9]:=by rw[Tryz.params7]
 exact Vx (T:=uH) hE rfl (fun ds aq=>by rw[vS]at aq;match ds,aq with|[d0,d1],_=>rfl) fh qx rfl (by kernel_rfl) (tb:=4) (by kernel_rfl) kids full (by rw[vS];decide) (m:=pK) (by rw[vS];kernel_rfl) (OG fK) zjr Xv
set_option maxRecDepth 100000 in
set_option maxHeartbeats 4000000 in
theorem zjt:joinedFacts Tryz.prog 7 Tryz.f7 Rows.remoteBytesSpec Rows.remoteBytesRow=true:=by
 unfold joinedFacts
 simp only[Bool.and_eq_true]
 exact⟨⟨⟨⟨⟨⟨⟨⟨⟨⟨⟨⟨⟨⟨⟨⟨⟨⟨⟨⟨⟨⟨⟨⟨⟨⟨⟨⟨⟨⟨⟨V5,V6⟩,V7⟩,V8⟩,V9⟩,Wa⟩,Wb⟩,Wc⟩,Wd⟩,We⟩,Wf⟩,Wh⟩,Wi⟩,Wj⟩,Wk⟩,Wl⟩,Wm⟩,Wn⟩,Wo⟩,Wp⟩,Wq⟩,Wr⟩,Ws⟩,Wt⟩,Wu⟩,Wv⟩,Ww⟩,Wx⟩,Wy⟩,Wz⟩,WA⟩,WB⟩
set_option maxRecDepth 100000 in
set_option maxHeartbeats 4000000 in
theorem zju:Rows.RemoteBytesSaid:=
 OpenClaim.holds_of_wide 7 Tryz.f7 rfl rfl rfl rfl rfl rfl rfl ⟨rfl,rfl,rfl,rfl,rfl⟩ rfl rfl rfl rfl rfl OI Tryz.func7 zjt
  WC WD
  (fun os started H enc _=>zjs os started H enc)
set_option maxRecDepth 100000 in
set_option maxHeartbeats 4000000 in
theorem remoteBytes_holds:Rows.RemoteBytesCardSaid:=
 Claim7.holds_tied_plain_at .later [] [.data] true (true, "dc999d89185705428c5669d199ba14a837be99a9d4a57d504c6aad46080d6c14") true
  zju (fun _ h=>by cases h) WE (fun _ h=>by cases h) remoteBytes_row_tie rfl ⟨rfl,rfl⟩ WG rfl
  (fun f fn hf mb=>by
   obtain rfl:f=7:=Option.some.inj (OI.symm.trans hf) |>.symm
   obtain rfl:fn=Tryz.f7:=(Option.some.inj (Tryz.func7.symm.trans mb)).symm
   exact⟨WH,fun j t aG=>by
    rw[Tryz.params7]at aG
    have hm:t∈[29,9]:=by simpa using Array.mem_of_getElem? aG
    exact(show Tryz.prog.wantsStandIn t=false by simpa using List.all_eq_true.1 WJ t hm)⟩)
  WI
#print axioms remoteBytes_holds
end Go.Proofs.YtmkpmgfieagphaaGreatDoor
