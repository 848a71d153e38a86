/- The statement RemoteWrites holds. Conditions: none but those of the given card. -/
import Derived.Test.YtmkpmgfieagphaaGreatDoorYBr
import Derived.Test.YtmkpmgfieagphaaGreatDoorYLWrites
import Derived.Test.YtmkpmgfieagphaaGreatDoorYFWrites
import Derived.Test.YtmkpmgfieagphaaGreatDoorCards
import Derived.Test.YtmkpmgfieagphaaGreatDoorTie
open Go Go.aO Go.eK Go.Proofs Go.ChangeShapes Go.WideShapes Go.ChangeAt Go.WideMaps Go.WideElems Go.RowKit
namespace Go.Proofs.YtmkpmgfieagphaaGreatDoor
theorem zjl:bG bj x5 12 pr:=by
 have h:=(zcX (G:=x5) Qs zaB zaC Z8 zac zag (zax Qs Wb)).c ⟨12,143,[.st .Home,.li .ck,.st .Case],[.bool],false⟩ (List.mem_of_getElem? (i:=135) (by kernel_rfl))
 exact(show e7 aV.d ub (⟨12,143,[.st .Home,.li .ck,.st .Case],[.bool],false⟩:iy).j=pr by kernel_rfl) ▸ h.2.2.1
set_option maxRecDepth 100000 in
set_option maxHeartbeats 4000000 in
theorem zjm(os:Os)(started:os.Started)(H:Type)(enc:TypeId × Value→H):
 ReturnsInHanded {} Tryz.checked os 12 .any (fun w args=>(Rows.remoteWritesSpec.pre enc Tryz.prog Tryz.f12 [] false w args∧laidMetH Tryz.prog x4 w)∧sizedMet enc Tryz.prog Tryz.f12 (OpenSpec.ofChange Rows.remoteWritesSpec) false w args)
  (Rows.remoteWritesSpec.post enc Tryz.prog Tryz.f12 false true false false):=by
 refine returnsInHanded_of_change_and (C:=Tryz.checked) (X:=fun w _=>laidMetH Tryz.prog x4 w) (fun _ _ _ bk h=>h.of_heap bk) own started (by kernel_rfl) Tryz.func12
  (ChangeSpec.witness_shaped (enc:=enc) (C:=Tryz.checked) (os:=os) (X:=fun w _=>laidMetH Tryz.prog x4 w) false (World.doorLaid Tryz.prog 400 os) #[.agg #[.slice none 0 0,.slice none 0 0],.slice none 0 0,.agg #[.slice none 0 0,.slice none 0 0,.slice none 0 0,.slice none 0 0,.int .i64 0,.slice none 0 0,.int .u64 0,.slice none 0 0,.slice none 0 0,.slice none 0 0,.string ByteArray.empty,.int .i64 0,.int .i64 0,.int .i64 0,.string ByteArray.empty,.string ByteArray.empty,.string ByteArray.empty,.int .i64 0,.int .i64 0,.string ByteArray.empty,.string ByteArray.empty,.int .i64 0,.int .i64 0]] 20 rfl (World.shaped_of_RefB (by kernel_rfl) (by kernel_rfl)) (by kernel_rfl) (by kernel_rfl) (by kernel_rfl) (V8 os _)) ?_
 intro W base args ds gs before sr h2 _ fA fD _
 have OQ:Tryz.f12.params.toList=[51,81,70]:=by rw[Tryz.params12]
 exact zh9 (T:=sf) h2 rfl (fun ds ar=>by rw[OQ]at ar;match ds,ar with|[d0,d1,d2],_=>rfl) fA sr rfl (by kernel_rfl) (tb:=4) (by kernel_rfl) kids full (by rw[OQ];decide) (m:=pr) (by rw[OQ];kernel_rfl) (Wd fD) zjl Xc
set_option maxRecDepth 100000 in
set_option maxHeartbeats 4000000 in
theorem zjn:joinedFacts Tryz.prog 12 Tryz.f12 Rows.remoteWritesSpec Rows.remoteWritesRow=true:=by
 unfold joinedFacts
 simp only[Bool.and_eq_true]
 exact⟨⟨⟨⟨⟨⟨⟨⟨⟨⟨⟨⟨⟨⟨⟨⟨⟨⟨⟨⟨⟨⟨⟨⟨⟨⟨⟨⟨⟨⟨⟨Wj,Wk⟩,Wl⟩,Wm⟩,Wn⟩,Wo⟩,Wp⟩,Wq⟩,Wr⟩,Ws⟩,Wt⟩,Wu⟩,Wv⟩,Ww⟩,Wx⟩,Wy⟩,Wz⟩,WA⟩,WB⟩,WC⟩,WD⟩,WE⟩,WG⟩,WH⟩,WI⟩,WJ⟩,WK⟩,WL⟩,WM⟩,WN⟩,WO⟩,WQ⟩
set_option maxRecDepth 100000 in
set_option maxHeartbeats 4000000 in
theorem zjo:Rows.RemoteWritesSaid:=
 OpenClaim.holds_of_wide 12 Tryz.f12 rfl rfl rfl rfl rfl rfl rfl ⟨rfl,rfl,rfl,rfl,rfl⟩ rfl rfl rfl rfl rfl OS Tryz.func12 zjn
  WR WS
  (fun os started H enc _=>zjm os started H enc)
set_option maxRecDepth 100000 in
set_option maxHeartbeats 4000000 in
theorem remoteWrites_holds:Rows.RemoteWritesCardSaid:=
 Claim7.holds_tied_plain_at .later [] [.data] true (true, "dc999d89185705428c5669d199ba14a837be99a9d4a57d504c6aad46080d6c14") true
  zjo (fun _ h=>by cases h) WT (fun _ h=>by cases h) remoteWrites_row_tie rfl ⟨rfl,rfl⟩ WU rfl
  (fun f fn hf nt=>by
   obtain rfl:f=12:=Option.some.inj (OS.symm.trans hf) |>.symm
   obtain rfl:fn=Tryz.f12:=(Option.some.inj (Tryz.func12.symm.trans nt)).symm
   exact⟨WV,fun j t aK=>by
    rw[Tryz.params12]at aK
    have hm:t∈[51,81,70]:=by simpa using Array.mem_of_getElem? aK
    exact(show Tryz.prog.wantsStandIn t=false by simpa using List.all_eq_true.1 WX t hm)⟩)
  WW
#print axioms remoteWrites_holds
end Go.Proofs.YtmkpmgfieagphaaGreatDoor
