/- TE, part M: slices.Clone, whatever the elements (the shelf's walk, turned to any address). Conditions: none. -/
import Derived.Shelf.SlicesE.Clone
import Derived.Test.YtddeffoppnlafaaGreatKTEk
namespace Go.aK
open Go Go.Proofs Go.Shelf Go.RowKit Go.Lib
section
variable {P:Program} {ρ:Ren}
set_option maxHeartbeats 2000000 in
set_option maxRecDepth 100000 in
theorem ZE(L:SlLaysE0.n41 P ρ)(i0:TypeInfo)(z:Value)(size bytes:Nat)(hi:P.info? (ρ.t 23)=some i0)(Jz:i0.zero=some z)(Bd:i0.size=size)(JA:i0.bytes=bytes)(iu:z.cells.size=size)(bT:0<size)
 (z23: ∀w,(Go.sizeOf (ρ.t 23)).run P w= .ok size w)(a:Addr)(n c:Nat)(news:List Value)(w:World)(av:news.length=n*size)(hn:n≤maxLen)(zhJ:n*bytes≤140737488355328)
 (hc: ∀j u,news[j]? =some u→w.cell? (a.add j)=some u)(ab: ∀u∈news,u.oneCell'=true):
 Calls P (ρ.f 41) #[.slice (some a) n c] w fun e w'=>∃bu,e= .returned bu∧w'.ownsRow w.heap.size (ρ.t 23) size bu n news∧Below w.heap.size w w':=by
 have mixed:=L.mixed;have t4:=L.t4;have a4:=L.a4;have z4:=L.z4;have v4:=L.v4;have t22:=L.t22;have a22:=L.a22;have z22:=L.z22;have v22:=L.v22
 have zkq: ∀(w:World) (a:Option Addr) (n c bL pz:Nat),(binOp .eql (ρ.t 22) (.slice a n c) (.slice none bL pz)).run P w= .ok (.bool a.isNone) w:=fun w a n c bL pz=>Lib.run_eql_slice_nil w _ _ a n c bL pz L.t22
 have zkr: ∀w,Sem.run P (underlying (ρ.t 22)) w= .ok (TypeDesc.slice (ρ.t 23)) w:=run_underlying t22
 have A:Aside (∀j u,news[j]? =some u→w.cell? (a.add j)=some u):=hc
 clear hc
 obtain⟨_,_,zhK⟩:=L.f41
 go_enter zhK,SlBodyN.n41_ntmps ρ
 go_wp2_with (at_builtin;refine wpList_append_own _ rfl _ _ (ρ.t 22) rfl w.heap.size (ρ.t 23) i0 z size bytes t22 hi Jz Bd JA iu bT _ _ _ rfl (World.ownsRow_made w #[] 0 (Nat.le_refl _) (Nat.zero_le _) (by simp)) a n c news rfl ?zhL ?zhM ?zhN ?zhO ?zhP ?zhQ ?_)
 case zhL=>exact av
 case zhM=>
  intro j u aj;exact Lib.cell?_alloc_some _ (A.out j u aj)
 case zhN=>exact ab
 case zhO=>rw[Nat.zero_add];exact hn
 case zhP=>rw[Nat.zero_add];exact zhJ
 case zhQ=>simp
 intro bu br h6 zhR s9
 go_wp2
 go_ret
 exact⟨bu,rfl,by simpa using h6,((Below.refl _ w).alloc (Nat.le_refl _) _).grown zhR (by simp) (by intro k an;simp[Value.ownBlock]at an;omega)⟩
end
end Go.aK
