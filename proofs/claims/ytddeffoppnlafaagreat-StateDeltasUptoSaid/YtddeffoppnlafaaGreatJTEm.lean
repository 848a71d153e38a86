/- Conditions: none. -/
import Derived.Shelf.SlicesE.Clone
import Derived.Test.YtddeffoppnlafaaGreatJTEv
namespace Go.aH
open Go Go.Proofs Go.Shelf Go.RowKit Go.Lib
section
variable {P:Program} {ρ:Ren}
set_option maxHeartbeats 2000000 in
set_option maxRecDepth 100000 in
theorem zdJ(L:SlLaysE0.n41 P ρ)(i0:TypeInfo)(z:Value)(size bytes:Nat)(hi:P.info? (ρ.t 23)=some i0)(MO:i0.zero=some z)(DL:i0.size=size)(MP:i0.bytes=bytes)(jk:z.cells.size=size)(b4:0<size)
 (z23: ∀w,(Go.sizeOf (ρ.t 23)).run P w= .ok size w)(a:Addr)(n c:Nat)(news:List Value)(w:World)(au:news.length=n*size)(hn:n<=maxLen)(zlF:n*bytes<=140737488355328)
 (hc: ∀j u,news[j]? =some u->w.cell? (a.add j)=some u)(aa: ∀u∈news,u.oneCell'=true):
 Calls P (ρ.f 41) #[.slice (some a) n c] w λe w'=>∃bC,e= .returned bC/\w'.ownsRow w.heap.size (ρ.t 23) size bC n news/\Below w.heap.size w w':=by
 have mixed:=L.mixed;have t4:=L.t4;have a4:=L.a4;have z4:=L.z4;have v4:=L.v4;have t22:=L.t22;have a22:=L.a22;have z22:=L.z22;have v22:=L.v22;have zo6: ∀(w:World) (a:Option Addr) (n c b0 rf:Nat),(binOp .eql (ρ.t 22) (.slice a n c) (.slice none b0 rf)).run P w= .ok (.bool a.isNone) w:=λw a n c b0 rf=>Lib.run_eql_slice_nil w _ _ a n c b0 rf L.t22;have zo7: ∀w,Sem.run P (underlying (ρ.t 22)) w= .ok (TypeDesc.slice (ρ.t 23)) w:=run_underlying t22;have A:Aside (∀j u,news[j]? =some u->w.cell? (a.add j)=some u):=hc;clear hc;obtain⟨_,_,zlG⟩:=L.f41
 go_enter zlG,SlBodyN.n41_ntmps ρ
 go_wp2_with (at_builtin;refine wpList_append_own _ rfl _ _ (ρ.t 22) rfl w.heap.size (ρ.t 23) i0 z size bytes t22 hi MO DL MP jk b4 _ _ _ rfl (World.ownsRow_made w #[] 0 (Nat.le_refl _) (Nat.zero_le _) (by simp)) a n c news rfl ?zlH ?zlI ?zlJ ?zlK ?zlL ?zlM ?_)
 case zlH=>exact au
 case zlI=>
  intro j u aj;exact Lib.cell?_alloc_some _ (A.out j u aj)
 case zlJ=>exact aa
 case zlK=>rw[Nat.zero_add];exact hn
 case zlL=>rw[Nat.zero_add];exact zlF
 case zlM=>simp
 intro bC bA iS zlN vq
 go_wp2
 go_ret
 exact⟨bC,rfl,by simpa using iS,((Below.refl _ w).alloc (Nat.le_refl _) _).grown zlN (by simp) (by intro k an;simp[Value.ownBlock]at an;omega)⟩
end
end Go.aH
