/- The statement RemoteChecks holds. Conditions: none but those of the given card. -/
import Derived.Test.YtmkpmgfieagphaaGreatDoorKBr
import Derived.Test.YtmkpmgfieagphaaGreatDoorKLChecks
import Derived.Test.YtmkpmgfieagphaaGreatDoorKFChecks
import Derived.Test.YtmkpmgfieagphaaGreatDoorCards
import Derived.Test.YtmkpmgfieagphaaGreatDoorTie
open Go Go.aL Go.eL Go.Proofs Go.ChangeShapes Go.WideShapes Go.ChangeAt Go.WideMaps Go.WideElems Go.RowKit
namespace Go.Proofs.YtmkpmgfieagphaaGreatDoor
theorem zjv:bJ bj tU 6 pN:=by
 have h:=(QP (G:=tU) C5 Qv Qw Qh Qi Qj (Qr C5 OG)).c ⟨6,132,[.st .Home,.st .bu],[.bool],false⟩ (List.mem_of_getElem? (i:=117) (by kernel_rfl))
 exact(show eU aR.d uP (⟨6,132,[.st .Home,.st .bu],[.bool],false⟩:ia).j=pN by kernel_rfl) ▸ h.2.2.1
set_option maxRecDepth 100000 in
set_option maxHeartbeats 4000000 in
theorem zjw(os:Os)(started:os.Started)(H:Type)(enc:TypeId × Value→H):
 ReturnsInHanded {} Tryz.checked os 6 .any (fun w args=>(Rows.remoteChecksSpec.pre enc Tryz.prog Tryz.f6 [] false w args∧laidMetH Tryz.prog so w)∧sizedMet enc Tryz.prog Tryz.f6 (OpenSpec.ofChange Rows.remoteChecksSpec) false w args)
  (Rows.remoteChecksSpec.post enc Tryz.prog Tryz.f6 false true false false):=by
 refine returnsInHanded_of_change_and (C:=Tryz.checked) (X:=fun w _=>laidMetH Tryz.prog so w) (fun _ _ _ bb h=>h.of_heap bb) own started (by kernel_rfl) Tryz.func6
  (ChangeSpec.witness_shaped (enc:=enc) (C:=Tryz.checked) (os:=os) (X:=fun w _=>laidMetH Tryz.prog so w) false (World.doorLaid Tryz.prog 400 os) #[.agg #[.slice none 0 0,.slice none 0 0],.agg #[.int .i64 0,.int .i64 0,.int .i64 0,.string ByteArray.empty,.string ByteArray.empty,.string ByteArray.empty,.int .i64 0,.int .i64 0,.string ByteArray.empty,.string ByteArray.empty]] 20 rfl (World.shaped_of_RefB (by kernel_rfl) (by kernel_rfl)) (by kernel_rfl) (by kernel_rfl) (by kernel_rfl) (OF os _)) ?_
 intro W base args ds gs before qy hG _ fi fL _
 have vT:Tryz.f6.params.toList=[51,29]:=by rw[Tryz.params6]
 exact Vy (T:=uI) hG rfl (fun ds aq=>by rw[vT]at aq;match ds,aq with|[d0,d1],_=>rfl) fi qy rfl (by kernel_rfl) (tb:=4) (by kernel_rfl) kids full (by rw[vT];decide) (m:=pN) (by rw[vT];kernel_rfl) (OH fL) zjv XC
set_option maxRecDepth 100000 in
set_option maxHeartbeats 4000000 in
theorem zjx:joinedFacts Tryz.prog 6 Tryz.f6 Rows.remoteChecksSpec Rows.remoteChecksRow=true:=by
 unfold joinedFacts
 simp only[Bool.and_eq_true]
 exact⟨⟨⟨⟨⟨⟨⟨⟨⟨⟨⟨⟨⟨⟨⟨⟨⟨⟨⟨⟨⟨⟨⟨⟨⟨⟨⟨⟨⟨⟨⟨WL,WM⟩,WN⟩,WO⟩,WQ⟩,WR⟩,WS⟩,WT⟩,WU⟩,WV⟩,WW⟩,WX⟩,WY⟩,WZ⟩,W0⟩,W1⟩,W2⟩,W3⟩,W4⟩,W5⟩,W6⟩,W7⟩,W8⟩,W9⟩,Xa⟩,Xb⟩,Xc⟩,Xd⟩,Xe⟩,Xf⟩,Xg⟩,Xh⟩
set_option maxRecDepth 100000 in
set_option maxHeartbeats 4000000 in
theorem zjy:Rows.RemoteChecksSaid:=
 OpenClaim.holds_of_wide 6 Tryz.f6 rfl rfl rfl rfl rfl rfl rfl ⟨rfl,rfl,rfl,rfl,rfl⟩ rfl rfl rfl rfl rfl OK Tryz.func6 zjx
  Xi Xj
  (fun os started H enc _=>zjw os started H enc)
set_option maxRecDepth 100000 in
set_option maxHeartbeats 4000000 in
theorem remoteChecks_holds:Rows.RemoteChecksCardSaid:=
 Claim7.holds_tied_plain_at .later [] [.data] true (true, "dc999d89185705428c5669d199ba14a837be99a9d4a57d504c6aad46080d6c14") true
  zjy (fun _ h=>by cases h) Xk (fun _ h=>by cases h) remoteChecks_row_tie rfl ⟨rfl,rfl⟩ Xl rfl
  (fun f fn hf mc=>by
   obtain rfl:f=6:=Option.some.inj (OK.symm.trans hf) |>.symm
   obtain rfl:fn=Tryz.f6:=(Option.some.inj (Tryz.func6.symm.trans mc)).symm
   exact⟨Xm,fun j t aH=>by
    rw[Tryz.params6]at aH
    have hm:t∈[51,29]:=by simpa using Array.mem_of_getElem? aH
    exact(show Tryz.prog.wantsStandIn t=false by simpa using List.all_eq_true.1 Xo t hm)⟩)
  Xn
#print axioms remoteChecks_holds
end Go.Proofs.YtmkpmgfieagphaaGreatDoor
