/- The statement RemoteOthers holds. Conditions: none but those of the given card. -/
import Derived.Test.YtmkpmgfieagphaaGreatDoorQBr
import Derived.Test.YtmkpmgfieagphaaGreatDoorQLOthers
import Derived.Test.YtmkpmgfieagphaaGreatDoorQFOthers
import Derived.Test.YtmkpmgfieagphaaGreatDoorCards
import Derived.Test.YtmkpmgfieagphaaGreatDoorTie
open Go Go.aK Go.eO Go.Proofs Go.ChangeShapes Go.WideShapes Go.ChangeAt Go.WideMaps Go.WideElems Go.RowKit
namespace Go.Proofs.YtmkpmgfieagphaaGreatDoor
theorem zhW:bE bj sY 11 pj:=by
 have h:=(Pq (G:=sY) BL OM ON Oy Oz OA (OI BL Ng)).c ⟨11,128,[.st .Case,.str],[.bool],false⟩ (List.mem_of_getElem? (i:=120) (by kernel_rfl))
 exact(show eT aR.d tE (⟨11,128,[.st .Case,.str],[.bool],false⟩:h1).j=pj by kernel_rfl) ▸ h.2.2.1
set_option maxRecDepth 100000 in
set_option maxHeartbeats 4000000 in
theorem zhX(os:Os)(started:os.Started)(H:Type)(enc:TypeId × Value→H):
 ReturnsInHanded {} Tryz.checked os 11 .any (fun w args=>(Rows.remoteOthersSpec.pre enc Tryz.prog Tryz.f11 [] false w args∧laidMetH Tryz.prog rJ w)∧sizedMet enc Tryz.prog Tryz.f11 (OpenSpec.ofChange Rows.remoteOthersSpec) false w args)
  (Rows.remoteOthersSpec.post enc Tryz.prog Tryz.f11 false true false false):=by
 refine returnsInHanded_of_change_and (C:=Tryz.checked) (X:=fun w _=>laidMetH Tryz.prog rJ w) (fun _ _ _ bd h=>h.of_heap bd) own started (by kernel_rfl) Tryz.func11
  (ChangeSpec.witness_shaped (enc:=enc) (C:=Tryz.checked) (os:=os) (X:=fun w _=>laidMetH Tryz.prog rJ w) false (World.doorLaid Tryz.prog 400 os) #[.agg #[.slice none 0 0,.slice none 0 0,.slice none 0 0,.slice none 0 0,.int .i64 0,.slice none 0 0,.int .u64 0,.slice none 0 0,.slice none 0 0,.slice none 0 0,.string ByteArray.empty,.int .i64 0,.int .i64 0,.int .i64 0,.string ByteArray.empty,.string ByteArray.empty,.string ByteArray.empty,.int .i64 0,.int .i64 0,.string ByteArray.empty,.string ByteArray.empty,.int .i64 0,.int .i64 0],.string ByteArray.empty] 20 rfl (World.shaped_of_RefB (by kernel_rfl) (by kernel_rfl)) (by kernel_rfl) (by kernel_rfl) (by kernel_rfl) (Nf os _)) ?_
 intro W base args ds gs before pY hz _ ff fJ _
 have uW:Tryz.f11.params.toList=[70,9]:=by rw[Tryz.params11]
 exact Ue (T:=tv) hz rfl (fun ds ar=>by rw[uW]at ar;match ds,ar with|[d0,d1],_=>rfl) ff pY rfl (by kernel_rfl) (tb:=4) (by kernel_rfl) kids full (by rw[uW];decide) (m:=pj) (by rw[uW];kernel_rfl) (Nh fJ) zhW Wi
set_option maxRecDepth 100000 in
set_option maxHeartbeats 4000000 in
theorem zhY:joinedFacts Tryz.prog 11 Tryz.f11 Rows.remoteOthersSpec Rows.remoteOthersRow=true:=by
 unfold joinedFacts
 simp only[Bool.and_eq_true]
 exact⟨⟨⟨⟨⟨⟨⟨⟨⟨⟨⟨⟨⟨⟨⟨⟨⟨⟨⟨⟨⟨⟨⟨⟨⟨⟨⟨⟨⟨⟨⟨Vp,Vq⟩,Vr⟩,Vs⟩,Vt⟩,Vu⟩,Vv⟩,Vw⟩,Vx⟩,Vy⟩,Vz⟩,VA⟩,VB⟩,VC⟩,VD⟩,VE⟩,VF⟩,VG⟩,VH⟩,VI⟩,VJ⟩,VK⟩,VL⟩,VM⟩,VN⟩,VO⟩,VP⟩,VQ⟩,VR⟩,VS⟩,VT⟩,VU⟩
set_option maxRecDepth 100000 in
set_option maxHeartbeats 4000000 in
theorem zhZ:Rows.RemoteOthersSaid:=
 OpenClaim.holds_of_wide 11 Tryz.f11 rfl rfl rfl rfl rfl rfl rfl ⟨rfl,rfl,rfl,rfl,rfl⟩ rfl rfl rfl rfl rfl Nk Tryz.func11 zhY
  VV VW
  (fun os started H enc _=>zhX os started H enc)
set_option maxRecDepth 100000 in
set_option maxHeartbeats 4000000 in
theorem remoteOthers_holds:Rows.RemoteOthersCardSaid:=
 Claim7.holds_tied_plain_at .later [] [.data] true (true, "dc999d89185705428c5669d199ba14a837be99a9d4a57d504c6aad46080d6c14") true
  zhZ (fun _ h=>by cases h) VX (fun _ h=>by cases h) remoteOthers_row_tie rfl ⟨rfl,rfl⟩ VY rfl
  (fun f fn hf lQ=>by
   obtain rfl:f=11:=Option.some.inj (Nk.symm.trans hf) |>.symm
   obtain rfl:fn=Tryz.f11:=(Option.some.inj (Tryz.func11.symm.trans lQ)).symm
   exact⟨VZ,fun j t aH=>by
    rw[Tryz.params11]at aH
    have hm:t∈[70,9]:=by simpa using Array.mem_of_getElem? aH
    exact(show Tryz.prog.wantsStandIn t=false by simpa using List.all_eq_true.1 V1 t hm)⟩)
  V0
#print axioms remoteOthers_holds
end Go.Proofs.YtmkpmgfieagphaaGreatDoor
