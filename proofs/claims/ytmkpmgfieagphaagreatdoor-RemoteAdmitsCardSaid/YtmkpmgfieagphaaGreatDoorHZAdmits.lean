/- The statement RemoteAdmits holds. Conditions: none but those of the given card. -/
import Derived.Test.YtmkpmgfieagphaaGreatDoorHBr
import Derived.Test.YtmkpmgfieagphaaGreatDoorHLAdmits
import Derived.Test.YtmkpmgfieagphaaGreatDoorHFAdmits
import Derived.Test.YtmkpmgfieagphaaGreatDoorCards
import Derived.Test.YtmkpmgfieagphaaGreatDoorTie
open Go Go.aN Go.eg Go.Proofs Go.ChangeShapes Go.WideShapes Go.ChangeAt Go.WideMaps Go.WideElems Go.RowKit
namespace Go.Proofs.YtmkpmgfieagphaaGreatDoor
theorem zlE:bE bf yW 8 pU:=by
 have h:=(zfh (G:=yW) R2 zcK zcL zch zcl zcp (zcG R2 Xw)).c ⟨8,156,[.st .Case],[.bool],false⟩ (List.mem_of_getElem? (i:=143) (by kernel_rfl))
 exact(show e6 aS.d xc (⟨8,156,[.st .Case],[.bool],false⟩:iD).j=pU by kernel_rfl) ▸ h.2.2.1
set_option maxRecDepth 100000 in
set_option maxHeartbeats 4000000 in
theorem zlF(os:Os)(started:os.Started)(H:Type)(enc:TypeId × Value→H):
 ReturnsInHanded {} Tryz.checked os 8 .any (fun w args=>(Rows.remoteAdmitsSpec.pre enc Tryz.prog Tryz.f8 [] false w args∧laidMetH Tryz.prog yV w)∧sizedMet enc Tryz.prog Tryz.f8 (OpenSpec.ofChange Rows.remoteAdmitsSpec) false w args)
  (Rows.remoteAdmitsSpec.post enc Tryz.prog Tryz.f8 false true false false):=by
 refine returnsInHanded_of_change_and (C:=Tryz.checked) (X:=fun w _=>laidMetH Tryz.prog yV w) (fun _ _ _ a6 h=>h.of_heap a6) own started (by kernel_rfl) Tryz.func8
  (ChangeSpec.witness_shaped (enc:=enc) (C:=Tryz.checked) (os:=os) (X:=fun w _=>laidMetH Tryz.prog yV w) false (World.doorLaid Tryz.prog 400 os) #[.agg #[.slice none 0 0,.slice none 0 0,.slice none 0 0,.slice none 0 0,.int .i64 0,.slice none 0 0,.int .u64 0,.slice none 0 0,.slice none 0 0,.slice none 0 0,.string ByteArray.empty,.int .i64 0,.int .i64 0,.int .i64 0,.string ByteArray.empty,.string ByteArray.empty,.string ByteArray.empty,.int .i64 0,.int .i64 0,.string ByteArray.empty,.string ByteArray.empty,.int .i64 0,.int .i64 0]] 20 rfl (World.shaped_of_RefB (by kernel_rfl) (by kernel_rfl)) (by kernel_rfl) (by kernel_rfl) (by kernel_rfl) (Xt os _)) ?_
 intro W base args ds gs before sZ ic _ fD fY _
 have P9:Tryz.f8.params.toList=[70]:=by rw[Tryz.params8]
 exact zkv (T:=w5) ic rfl (fun ds aq=>by rw[P9]at aq;match ds,aq with|[d0],_=>rfl) fD sZ rfl (by kernel_rfl) (tb:=4) (by kernel_rfl) kids full (by rw[P9];decide) (m:=pU) (by rw[P9];kernel_rfl) (Xy fY) zlE Yq
set_option maxRecDepth 100000 in
set_option maxHeartbeats 4000000 in
theorem zlG:joinedFacts Tryz.prog 8 Tryz.f8 Rows.remoteAdmitsSpec Rows.remoteAdmitsRow=true:=by
 unfold joinedFacts
 simp only[Bool.and_eq_true]
 exact⟨⟨⟨⟨⟨⟨⟨⟨⟨⟨⟨⟨⟨⟨⟨⟨⟨⟨⟨⟨⟨⟨⟨⟨⟨⟨⟨⟨⟨⟨⟨XC,XD⟩,XE⟩,XF⟩,XG⟩,XH⟩,XI⟩,XJ⟩,XK⟩,XL⟩,XM⟩,XN⟩,XO⟩,XP⟩,XQ⟩,XR⟩,XS⟩,XT⟩,XU⟩,XV⟩,XW⟩,XX⟩,XY⟩,XZ⟩,X0⟩,X1⟩,X2⟩,X3⟩,X4⟩,X5⟩,X6⟩,X7⟩
set_option maxRecDepth 100000 in
set_option maxHeartbeats 4000000 in
theorem zlH:Rows.RemoteAdmitsSaid:=
 OpenClaim.holds_of_wide 8 Tryz.f8 rfl rfl rfl rfl rfl rfl rfl ⟨rfl,rfl,rfl,rfl,rfl⟩ rfl rfl rfl rfl rfl Qb Tryz.func8 zlG
  X8 X9
  (fun os started H enc _=>zlF os started H enc)
set_option maxRecDepth 100000 in
set_option maxHeartbeats 4000000 in
theorem remoteAdmits_holds:Rows.RemoteAdmitsCardSaid:=
 Claim7.holds_tied_plain_at .later [] [.data] true (true, "dc999d89185705428c5669d199ba14a837be99a9d4a57d504c6aad46080d6c14") true
  zlH (fun _ h=>by cases h) Ya (fun _ h=>by cases h) remoteAdmits_row_tie rfl ⟨rfl,rfl⟩ Yb rfl
  (fun f fn hf nV=>by
   obtain rfl:f=8:=Option.some.inj (Qb.symm.trans hf) |>.symm
   obtain rfl:fn=Tryz.f8:=(Option.some.inj (Tryz.func8.symm.trans nV)).symm
   exact⟨Yc,fun j t aH=>by
    rw[Tryz.params8]at aH
    have hm:t∈[70]:=by simpa using Array.mem_of_getElem? aH
    exact(show Tryz.prog.wantsStandIn t=false by simpa using List.all_eq_true.1 Ye t hm)⟩)
  Yd
#print axioms remoteAdmits_holds
end Go.Proofs.YtmkpmgfieagphaaGreatDoor
