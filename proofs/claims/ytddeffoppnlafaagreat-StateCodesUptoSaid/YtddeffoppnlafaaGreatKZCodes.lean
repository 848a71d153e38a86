/- The statement StateCodes holds, where what is read is of bulk at most 1048576. Conditions: none but those of the given row. -/
import Derived.Test.YtddeffoppnlafaaGreatKBr
import Derived.Test.YtddeffoppnlafaaGreatKLCodes
import Derived.Test.YtddeffoppnlafaaGreatKFCodes
open Go Go.aK Go.fb Go.Proofs Go.ChangeShapes Go.WideShapes Go.ChangeAt Go.WideMaps Go.WideElems Go.RowKit
namespace Go.Proofs.YtddeffoppnlafaaGreat
theorem zjR:eF cZ kj 3 rF:=by
 have h:=YX.c ⟨3,71,[.st .bG,.str],[.bool],false⟩ (List.mem_of_getElem? (i:=41) (by kernel_rfl))
 exact(show fD bo.d wH (⟨3,71,[.st .bG,.str],[.bool],false⟩:jM).j=rF by kernel_rfl) ▸ h.2.2.1
set_option maxRecDepth 100000 in
set_option maxHeartbeats 4000000 in
theorem zjS(os:Os)(started:os.Started)(H:Type)(enc:TypeId × Value→H)(F:Stop.Interp):
    ReturnsInHanded {} Tryz.checked os 3 .any ((Rows.OpenSpec.upto Rows.stateCodesSpec).pre6 enc Tryz.prog Tryz.f3 Rows.stateCodesUptoRow.domain false) (((Rows.OpenSpec.upto Rows.stateCodesSpec).at F).post enc Tryz.prog Tryz.f3 false true false false):=by
  refine returnsInHanded_of_cond_sized (C:=Tryz.checked) (s:=Rows.OpenSpec.upto Rows.stateCodesSpec) (k:=Rows.uptoSmall) rfl own started (by kernel_rfl) Tryz.func3
    (OpenSpec.witness (enc:=enc) (C:=Tryz.checked) (s:=Rows.OpenSpec.upto Rows.stateCodesSpec) (k:=Rows.uptoSmall) rfl false ⟨#[],#[.agg #[.int .i64 0,.string ByteArray.empty,.slice none 0 0,.slice none 0 0,.slice none 0 0,.slice none 0 0,.string ByteArray.empty,.slice none 0 0,.int .i64 0,.slice none 0 0],.string ByteArray.empty],[]⟩ 20 (by kernel_rfl) (by kernel_rfl) (by kernel_rfl)
      (x:=([.agg [.lit (.int .i64 0),.lit (.string []),.nil,.nil,.nil,.nil,.lit (.string []),.nil,.lit (.int .i64 0),.nil],.lit (.string [])],[],[])) (by kernel_rfl) rfl (by kernel_rfl)) ?_
  intro W base args ds gs before p7 ln _ an fH _
  have QL:Tryz.f3.params.toList=[29,9]:=by rw[Tryz.params3]
  exact zh7 (s:=Rows.stateCodesSpec) (T:=Ke) (B:=1048576) ln rfl (fun ds av=>by rw[QL]at av;match ds,av with|[d0,d1],_=>rfl) fH p7 rfl (by kernel_rfl) (tb:=4) (by kernel_rfl) kids full (by rw[QL];decide) (m:=rF) (by rw[QL];kernel_rfl) YZ zjR (Nat.le_trans (QM ds gs) (of_decide_eq_true an)) zbs
set_option maxRecDepth 100000 in
set_option maxHeartbeats 4000000 in
theorem zjT:joinedFacts Tryz.prog 3 Tryz.f3 Rows.stateCodesSpec Rows.stateCodesUptoRow=true:=by
 unfold joinedFacts
 simp only[Bool.and_eq_true]
 exact⟨⟨⟨⟨⟨⟨⟨⟨⟨⟨⟨⟨⟨⟨⟨⟨⟨⟨⟨⟨⟨⟨⟨⟨⟨⟨⟨⟨⟨⟨⟨zaz,zaA⟩,zaB⟩,zaC⟩,zaD⟩,zaE⟩,zaF⟩,zaG⟩,zaH⟩,zaI⟩,zaJ⟩,zaK⟩,zaL⟩,zaM⟩,zaN⟩,zaO⟩,zaP⟩,zaQ⟩,zaR⟩,zaS⟩,zaT⟩,zaU⟩,zaV⟩,zaW⟩,zaX⟩,zaY⟩,zaZ⟩,za0⟩,za1⟩,za2⟩,za3⟩,za4⟩
set_option maxRecDepth 100000 in
set_option maxHeartbeats 4000000 in
theorem stateCodes_holds:Rows.StateCodesUptoSaid:=
 OpenClaim.holds_of_cond 3 Tryz.f3 rfl rfl rfl rfl rfl rfl rfl ⟨rfl,rfl,rfl,rfl,rfl⟩ rfl rfl rfl rfl rfl za5 Tryz.func3 zjT
  za6 za7
  (fun os started H enc _ F=>zjS os started H enc F)
#print axioms stateCodes_holds
end Go.Proofs.YtddeffoppnlafaaGreat
