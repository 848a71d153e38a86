/- Conditions: none. -/
import Derived.Test.YtddeffoppnlafaaGreatJBr
import Derived.Test.YtddeffoppnlafaaGreatJLDeltas
import Derived.Test.YtddeffoppnlafaaGreatJFDeltas
open ByteArray renaming empty->zU0
open Go Go.aH Go.eT Go.Proofs Go.ChangeShapes Go.WideShapes Go.ChangeAt Go.WideMaps Go.WideElems Go.RowKit
namespace Go.Proofs.YtddeffoppnlafaaGreat
theorem zoB:eU c2 lq 4 u1:=by
 have h:=zc2.c ⟨4,73,[.st .aY,.st .aY,.str],[.bool],false⟩ (List.mem_of_getElem? (i:=43) (by kernel_rfl))
 exact(show fQ bs.d vf (⟨4,73,[.st .aY,.st .aY,.str],[.bool],false⟩:kD).j=u1 by kernel_rfl) ▸ h.2.2.1
set_option maxRecDepth 100000 in
set_option maxHeartbeats 4000000 in
theorem zoC(os:Os)(started:os.Started)(H:Type)(enc:TypeId × Value->H)(F:Stop.Interp):
    ReturnsInHanded {} Tryz.checked os 4 .any ((Rows.OpenSpec.upto Rows.stateDeltasSpec).pre6 enc Tryz.prog Tryz.f4 Rows.stateDeltasUptoRow.domain false) (((Rows.OpenSpec.upto Rows.stateDeltasSpec).at F).post enc Tryz.prog Tryz.f4 false true false false):=by
  refine returnsInHanded_of_cond_sized (C:=Tryz.checked) (s:=Rows.OpenSpec.upto Rows.stateDeltasSpec) (k:=Rows.uptoSmall) rfl own started (by kernel_rfl) Tryz.func4
    (OpenSpec.witness (enc:=enc) (C:=Tryz.checked) (s:=Rows.OpenSpec.upto Rows.stateDeltasSpec) (k:=Rows.uptoSmall) rfl false ⟨#[],#[.agg #[.int .i64 0,.string zU0,.slice none 0 0,.slice none 0 0,.slice none 0 0,.slice none 0 0,.string zU0,.slice none 0 0,.int .i64 0,.slice none 0 0],.agg #[.int .i64 0,.string zU0,.slice none 0 0,.slice none 0 0,.slice none 0 0,.slice none 0 0,.string zU0,.slice none 0 0,.int .i64 0,.slice none 0 0],.string zU0],[]⟩ 20 (by kernel_rfl) (by kernel_rfl) (by kernel_rfl)
      (x:=([.agg [.lit (.int .i64 0),.lit (.string []),.nil,.nil,.nil,.nil,.lit (.string []),.nil,.lit (.int .i64 0),.nil],.agg [.lit (.int .i64 0),.lit (.string []),.nil,.nil,.nil,.nil,.lit (.string []),.nil,.lit (.int .i64 0),.nil],.lit (.string [])],[],[])) (by kernel_rfl) rfl (by kernel_rfl)) ?_
  intro W base args ds gs before rT mH _ an gm _;have Tr:Tryz.f4.params.toList=[29,29,9]:=by rw[Tryz.params4]
  exact zl3 (s:=Rows.stateDeltasSpec) (T:=Nz) (B:=1048576) mH rfl (λds au=>by rw[Tr]at au;match ds,au with|[d0,d1,d2],_=>rfl) gm rT rfl (by kernel_rfl) (tb:=4) (by kernel_rfl) kids full (by rw[Tr];decide) (m:=u1) (by rw[Tr];kernel_rfl) zc4 zoB (Nat.le_trans (Ts ds gs) (of_decide_eq_true an)) zfr
set_option maxRecDepth 100000 in
set_option maxHeartbeats 4000000 in
theorem zoD:joinedFacts Tryz.prog 4 Tryz.f4 Rows.stateDeltasSpec Rows.stateDeltasUptoRow=true:=by
 unfold joinedFacts;simp only[Bool.and_eq_true];exact⟨⟨⟨⟨⟨⟨⟨⟨⟨⟨⟨⟨⟨⟨⟨⟨⟨⟨⟨⟨⟨⟨⟨⟨⟨⟨⟨⟨⟨⟨⟨zeE,zeF⟩,zeG⟩,zeH⟩,zeI⟩,zeJ⟩,zeK⟩,zeL⟩,zeM⟩,zeN⟩,zeO⟩,zeP⟩,zeQ⟩,zeR⟩,zeS⟩,zeT⟩,zeU⟩,zeV⟩,zeW⟩,zeX⟩,zeY⟩,zeZ⟩,ze0⟩,ze1⟩,ze2⟩,ze3⟩,ze4⟩,ze5⟩,ze6⟩,ze7⟩,ze8⟩,ze9⟩
set_option maxRecDepth 100000 in
set_option maxHeartbeats 4000000 in
theorem stateDeltas_holds:Rows.StateDeltasUptoSaid:=
 OpenClaim.holds_of_cond 4 Tryz.f4 rfl rfl rfl rfl rfl rfl rfl ⟨rfl,rfl,rfl,rfl,rfl⟩ rfl rfl rfl rfl rfl zfa Tryz.func4 zoD
  zfb zfc
  (λos started H enc _ F=>zoC os started H enc F)
#print axioms stateDeltas_holds
end Go.Proofs.YtddeffoppnlafaaGreat
