/- The statement RemoteOnce holds. Conditions: none but those of the given card. -/
import Derived.Test.YtmkpmgfieagphaaGreatDoorQBr
import Derived.Test.YtmkpmgfieagphaaGreatDoorQLOnce
import Derived.Test.YtmkpmgfieagphaaGreatDoorQFOnce
import Derived.Test.YtmkpmgfieagphaaGreatDoorCards
import Derived.Test.YtmkpmgfieagphaaGreatDoorTie
open Go Go.aK Go.eO Go.Proofs Go.ChangeShapes Go.WideShapes Go.ChangeAt Go.WideMaps Go.WideElems Go.RowKit
namespace Go.Proofs.YtmkpmgfieagphaaGreatDoor
theorem zhS:bE bj sY 10 pg:=by
 have h:=(Pq (G:=sY) BL OM ON Oy Oz OA (OI BL Ng)).c ⟨10,127,[.st .Case,.st .fx],[.bool],false⟩ (List.mem_of_getElem? (i:=119) (by kernel_rfl))
 exact(show eT aR.d tE (⟨10,127,[.st .Case,.st .fx],[.bool],false⟩:h1).j=pg by kernel_rfl) ▸ h.2.2.1
set_option maxRecDepth 100000 in
set_option maxHeartbeats 4000000 in
theorem zhT(os:Os)(started:os.Started)(H:Type)(enc:TypeId × Value→H):
 ReturnsInHanded {} Tryz.checked os 10 .any (fun w args=>(Rows.remoteOnceSpec.pre enc Tryz.prog Tryz.f10 [] false w args∧laidMetH Tryz.prog rJ w)∧sizedMet enc Tryz.prog Tryz.f10 (OpenSpec.ofChange Rows.remoteOnceSpec) false w args)
  (Rows.remoteOnceSpec.post enc Tryz.prog Tryz.f10 false true false false):=by
 refine returnsInHanded_of_change_and (C:=Tryz.checked) (X:=fun w _=>laidMetH Tryz.prog rJ w) (fun _ _ _ bd h=>h.of_heap bd) own started (by kernel_rfl) Tryz.func10
  (ChangeSpec.witness_shaped (enc:=enc) (C:=Tryz.checked) (os:=os) (X:=fun w _=>laidMetH Tryz.prog rJ w) false (World.doorLaid Tryz.prog 400 os) #[.agg #[.slice none 0 0,.slice none 0 0,.slice none 0 0,.slice none 0 0,.int .i64 0,.slice none 0 0,.int .u64 0,.slice none 0 0,.slice none 0 0,.slice none 0 0,.string ByteArray.empty,.int .i64 0,.int .i64 0,.int .i64 0,.string ByteArray.empty,.string ByteArray.empty,.string ByteArray.empty,.int .i64 0,.int .i64 0,.string ByteArray.empty,.string ByteArray.empty,.int .i64 0,.int .i64 0],.agg #[.string ByteArray.empty,.int .i64 0,.int .i64 0,.int .i64 0,.string ByteArray.empty,.string ByteArray.empty,.string ByteArray.empty,.int .i64 0,.int .i64 0,.string ByteArray.empty,.string ByteArray.empty]] 20 rfl (World.shaped_of_RefB (by kernel_rfl) (by kernel_rfl)) (by kernel_rfl) (by kernel_rfl) (by kernel_rfl) (Nf os _)) ?_
 intro W base args ds gs before pY hz _ ff fJ _
 have uW:Tryz.f10.params.toList=[70,31]:=by rw[Tryz.params10]
 exact Ue (T:=tv) hz rfl (fun ds ar=>by rw[uW]at ar;match ds,ar with|[d0,d1],_=>rfl) ff pY rfl (by kernel_rfl) (tb:=4) (by kernel_rfl) kids full (by rw[uW];decide) (m:=pg) (by rw[uW];kernel_rfl) (Nh fJ) zhS Wd
set_option maxRecDepth 100000 in
set_option maxHeartbeats 4000000 in
theorem zhU:joinedFacts Tryz.prog 10 Tryz.f10 Rows.remoteOnceSpec Rows.remoteOnceRow=true:=by
 unfold joinedFacts
 simp only[Bool.and_eq_true]
 exact⟨⟨⟨⟨⟨⟨⟨⟨⟨⟨⟨⟨⟨⟨⟨⟨⟨⟨⟨⟨⟨⟨⟨⟨⟨⟨⟨⟨⟨⟨⟨UL,UM⟩,UN⟩,UO⟩,UP⟩,UQ⟩,UR⟩,US⟩,UT⟩,UU⟩,UW⟩,UX⟩,UY⟩,UZ⟩,U0⟩,U1⟩,U2⟩,U3⟩,U4⟩,U5⟩,U6⟩,U7⟩,U8⟩,U9⟩,Va⟩,Vb⟩,Vc⟩,Vd⟩,Ve⟩,Vf⟩,Vg⟩,Vh⟩
set_option maxRecDepth 100000 in
set_option maxHeartbeats 4000000 in
theorem zhV:Rows.RemoteOnceSaid:=
 OpenClaim.holds_of_wide 10 Tryz.f10 rfl rfl rfl rfl rfl rfl rfl ⟨rfl,rfl,rfl,rfl,rfl⟩ rfl rfl rfl rfl rfl Nj Tryz.func10 zhU
  Vi Vj
  (fun os started H enc _=>zhT os started H enc)
set_option maxRecDepth 100000 in
set_option maxHeartbeats 4000000 in
theorem remoteOnce_holds:Rows.RemoteOnceCardSaid:=
 Claim7.holds_tied_plain_at .later [] [.data] true (true, "dc999d89185705428c5669d199ba14a837be99a9d4a57d504c6aad46080d6c14") true
  zhV (fun _ h=>by cases h) Vk (fun _ h=>by cases h) remoteOnce_row_tie rfl ⟨rfl,rfl⟩ Vl rfl
  (fun f fn hf lQ=>by
   obtain rfl:f=10:=Option.some.inj (Nj.symm.trans hf) |>.symm
   obtain rfl:fn=Tryz.f10:=(Option.some.inj (Tryz.func10.symm.trans lQ)).symm
   exact⟨Vm,fun j t aH=>by
    rw[Tryz.params10]at aH
    have hm:t∈[70,31]:=by simpa using Array.mem_of_getElem? aH
    exact(show Tryz.prog.wantsStandIn t=false by simpa using List.all_eq_true.1 Vo t hm)⟩)
  Vn
#print axioms remoteOnce_holds
end Go.Proofs.YtmkpmgfieagphaaGreatDoor
