/- The statement RemoteBytes holds. Conditions: none but those of the given card. -/
import Derived.Test.YtmkpmgfieagphaaGreatDoorKBr
import Derived.Test.YtmkpmgfieagphaaGreatDoorKLBytes
import Derived.Test.YtmkpmgfieagphaaGreatDoorKFBytes
import Derived.Test.YtmkpmgfieagphaaGreatDoorCards
import Derived.Test.YtmkpmgfieagphaaGreatDoorTie
open Go Go.aL Go.eL Go.Proofs Go.ChangeShapes Go.WideShapes Go.ChangeAt Go.WideMaps Go.WideElems Go.RowKit
namespace Go.Proofs.YtmkpmgfieagphaaGreatDoor
theorem zjr:bJ bj tU 7 pL:=by
 have h:=(QP (G:=tU) C5 Qv Qw Qh Qi Qj (Qr C5 OG)).c ⟨7,133,[.st .bu,.str],[.bool],false⟩ (List.mem_of_getElem? (i:=118) (by kernel_rfl))
 exact(show eU aR.d uP (⟨7,133,[.st .bu,.str],[.bool],false⟩:ia).j=pL by kernel_rfl) ▸ h.2.2.1
set_option maxRecDepth 100000 in
set_option maxHeartbeats 4000000 in
theorem zjs(os:Os)(started:os.Started)(H:Type)(enc:TypeId × Value→H):
 ReturnsInHanded {} Tryz.checked os 7 .any (fun w args=>(Rows.remoteBytesSpec.pre enc Tryz.prog Tryz.f7 [] false w args∧laidMetH Tryz.prog so w)∧sizedMet enc Tryz.prog Tryz.f7 (OpenSpec.ofChange Rows.remoteBytesSpec) false w args)
  (Rows.remoteBytesSpec.post enc Tryz.prog Tryz.f7 false true false false):=by
 refine returnsInHanded_of_change_and (C:=Tryz.checked) (X:=fun w _=>laidMetH Tryz.prog so w) (fun _ _ _ bb h=>h.of_heap bb) own started (by kernel_rfl) Tryz.func7
  (ChangeSpec.witness_shaped (enc:=enc) (C:=Tryz.checked) (os:=os) (X:=fun w _=>laidMetH Tryz.prog so w) false (World.doorLaid Tryz.prog 400 os) #[.agg #[.int .i64 0,.int .i64 0,.int .i64 0,.string ByteArray.empty,.string ByteArray.empty,.string ByteArray.empty,.int .i64 0,.int .i64 0,.string ByteArray.empty,.string ByteArray.empty],.string ByteArray.empty] 20 rfl (World.shaped_of_RefB (by kernel_rfl) (by kernel_rfl)) (by kernel_rfl) (by kernel_rfl) (by kernel_rfl) (OF os _)) ?_
 intro W base args ds gs before qy hG _ fi fL _
 have vT:Tryz.f7.params.toList=[29,9]:=by rw[Tryz.params7]
 exact Vy (T:=uI) hG rfl (fun ds aq=>by rw[vT]at aq;match ds,aq with|[d0,d1],_=>rfl) fi qy rfl (by kernel_rfl) (tb:=4) (by kernel_rfl) kids full (by rw[vT];decide) (m:=pL) (by rw[vT];kernel_rfl) (OH fL) zjr Xw
set_option maxRecDepth 100000 in
set_option maxHeartbeats 4000000 in
theorem zjt:joinedFacts Tryz.prog 7 Tryz.f7 Rows.remoteBytesSpec Rows.remoteBytesRow=true:=by
 unfold joinedFacts
 simp only[Bool.and_eq_true]
 exact⟨⟨⟨⟨⟨⟨⟨⟨⟨⟨⟨⟨⟨⟨⟨⟨⟨⟨⟨⟨⟨⟨⟨⟨⟨⟨⟨⟨⟨⟨⟨V6,V7⟩,V8⟩,V9⟩,Wa⟩,Wb⟩,Wc⟩,Wd⟩,We⟩,Wf⟩,Wh⟩,Wi⟩,Wj⟩,Wk⟩,Wl⟩,Wm⟩,Wn⟩,Wo⟩,Wp⟩,Wq⟩,Wr⟩,Ws⟩,Wt⟩,Wu⟩,Wv⟩,Ww⟩,Wx⟩,Wy⟩,Wz⟩,WA⟩,WB⟩,WC⟩
set_option maxRecDepth 100000 in
set_option maxHeartbeats 4000000 in
theorem zju:Rows.RemoteBytesSaid:=
 OpenClaim.holds_of_wide 7 Tryz.f7 rfl rfl rfl rfl rfl rfl rfl ⟨rfl,rfl,rfl,rfl,rfl⟩ rfl rfl rfl rfl rfl OJ Tryz.func7 zjt
  WD WE
  (fun os started H enc _=>zjs os started H enc)
set_option maxRecDepth 100000 in
set_option maxHeartbeats 4000000 in
theorem remoteBytes_holds:Rows.RemoteBytesCardSaid:=
 Claim7.holds_tied_plain_at .later [] [.data] true (true, "dc999d89185705428c5669d199ba14a837be99a9d4a57d504c6aad46080d6c14") true
  zju (fun _ h=>by cases h) WG (fun _ h=>by cases h) remoteBytes_row_tie rfl ⟨rfl,rfl⟩ WH rfl
  (fun f fn hf mc=>by
   obtain rfl:f=7:=Option.some.inj (OJ.symm.trans hf) |>.symm
   obtain rfl:fn=Tryz.f7:=(Option.some.inj (Tryz.func7.symm.trans mc)).symm
   exact⟨WI,fun j t aH=>by
    rw[Tryz.params7]at aH
    have hm:t∈[29,9]:=by simpa using Array.mem_of_getElem? aH
    exact(show Tryz.prog.wantsStandIn t=false by simpa using List.all_eq_true.1 WK t hm)⟩)
  WJ
#print axioms remoteBytes_holds
end Go.Proofs.YtmkpmgfieagphaaGreatDoor
