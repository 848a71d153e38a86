/- TE, part M: slices.Clone, whatever the elements (the shelf's walk, turned to any address). Conditions: none. -/
import Derived.Shelf.SlicesE.Clone
import Derived.Test.YtmkpmgfieagphaaGreatDoorYTEq
namespace Go.aO
open Go Go.Proofs Go.Shelf Go.RowKit Go.Lib
section
variable {P:Program} {bc:Ren}
set_option maxHeartbeats 2000000 in
set_option maxRecDepth 100000 in
theorem ziw(L:SlLaysE0.n41 P bc)(i0:TypeInfo)(z:Value)(size bytes:Nat)(hi:P.info? (bc.t 23)=some i0)(lL:i0.zero=some z)(iG:i0.size=size)(kC:i0.bytes=bytes)(fe:z.cells.size=size)(bY:0<size)
 (z23: ∀w,(Go.sizeOf (bc.t 23)).run P w= .ok size w)(a:Addr)(n c:Nat)(news:List Value)(w:World)(ar:news.length=n*size)(hn:n≤maxLen)(rN:n*bytes≤140737488355328)
 (hc: ∀j u,news[j]? =some u→w.cell? (a.add j)=some u)(aa: ∀u∈news,u.oneCell'=true):
 Calls P (bc.f 41) #[.slice (some a) n c] w fun e w'=>∃bp,e= .returned bp∧w'.ownsRow w.heap.size (bc.t 23) size bp n news∧Below w.heap.size w w':=by
 have mixed:=L.mixed;have t4:=L.t4;have a4:=L.a4;have z4:=L.z4;have v4:=L.v4;have t22:=L.t22;have a22:=L.a22;have z22:=L.z22;have v22:=L.v22
 have zj3: ∀(w:World) (a:Option Addr) (n c cT lz:Nat),(binOp .eql (bc.t 22) (.slice a n c) (.slice none cT lz)).run P w= .ok (.bool a.isNone) w:=fun w a n c cT lz=>Lib.run_eql_slice_nil w _ _ a n c cT lz L.t22
 have zj4: ∀w,Sem.run P (underlying (bc.t 22)) w= .ok (TypeDesc.slice (bc.t 23)) w:=run_underlying t22
 have A:Aside (∀j u,news[j]? =some u→w.cell? (a.add j)=some u):=hc
 clear hc
 obtain⟨_,_,rO⟩:=L.f41
 go_enter rO,SlBodyN.n41_ntmps bc
 go_wp2_with (at_builtin;refine wpList_append_own _ rfl _ _ (bc.t 22) rfl w.heap.size (bc.t 23) i0 z size bytes t22 hi lL iG kC fe bY _ _ _ rfl (World.ownsRow_made w #[] 0 (Nat.le_refl _) (Nat.zero_le _) (by simp)) a n c news rfl ?zix ?ziy ?ziz ?ziA ?ziB ?ziC ?_)
 case zix=>exact ar
 case ziy=>
  intro j u af;exact Lib.cell?_alloc_some _ (A.out j u af)
 case ziz=>exact aa
 case ziA=>rw[Nat.zero_add];exact hn
 case ziB=>rw[Nat.zero_add];exact rN
 case ziC=>simp
 intro bp dA hv ziD q4
 go_wp2
 go_ret
 exact⟨bp,rfl,by simpa using hv,((Below.refl _ w).alloc (Nat.le_refl _) _).grown ziD (by simp) (by intro k aj;simp[Value.ownBlock]at aj;omega)⟩
theorem y2{G:bd}{c:bJ}(L:SlLaysE0.n41 P bc)(i0:TypeInfo)(z:Value)(bytes:Nat)(hi:P.info? (bc.t 23)=some i0)(lL:i0.zero=some z)(iG:i0.size=b5 c)(kC:i0.bytes=bytes)(fe:z.cells.size=b5 c)(bY:0<b5 c)
 (z23: ∀w,(Go.sizeOf (bc.t 23)).run P w= .ok (b5 c) w):nr P G ⟨bc.f 41,bc.t 23,c,bytes⟩:=by
 intro σ n y l ay Bh w β ro ed aa ae au aW bN
 have OD:=ae 0 y rfl
 have rL:ed= #[ed.getD 0 undef]:=by
  have ai:ed.size=1:=aa
  apply Array.ext
  ·simpa using ai
  ·intro i x1 mc
   have:i=0:=by omega
   subst this;simp[Array.getD,ai]
 obtain⟨b,cap,iT,ma,oL,f,hZ,oM⟩:=wy au OD ay
 obtain⟨nF,oN,q5⟩:=zD ma oM
 rw[rL,iT]
 rw[List.length_map]at nF hZ⊢
 have ir:df ⟨w,ro,σ,β,n,[]⟩ G ⟨[],σ,n,n⟩ ⟨#[],[]⟩ w β ro:=⟨rfl,rfl,by simp,au,aW,⟨rfl,rfl,rfl,Nat.le_refl _,fun _ _ _=>rfl,fun _ h=>.inl h,fun _ h=>h,fun _ h=>.inl h,fun id _ o ah=>⟨by simp[ah],rfl⟩,bN,Nat.le_refl _⟩,Nat.le_refl _⟩
 have jl:aG σ n=none:=by
  cases ah:aG σ n with
  |none=>rfl
  |some p=>have:=bN _ _ ah;omega
 have fin: ∀(bp:Value) (w':World),w'.ownsRow w.heap.size (bc.t 23) (b5 c) bp l.length ((List.range (l.length*b5 c)).map f)→Below w.heap.size w w'→
  ∃v r e0 dN ro' cT,Ending.returned bp=Ending.returned v∧(r=aF.aR n∧e0=(n,.row false (bc.t 23) (b5 c) (l.map (cj c)))::σ)∧bF w' ro' e0 dN cT r v∧gY w' ro' e0 dN cT∧Trans ⟨w,ro,σ,β,n,[]⟩ w' ro' e0 dN cT:=by
  intro bp w' hv q7
  have db:h6 w' (bc.t 23) (b5 c) bp l.length ((List.range (l.length*b5 c)).map f):=h6.Di (by
   obtain⟨da,dm⟩:=hv
   refine⟨da,dm.imp id fun⟨g,hW,cur,aE,_,cv⟩=>⟨g,hW,cur,aE,Nat.zero_le _,cv⟩⟩)
  have hw: ∀b,b<w.heap.size→w'.heap[b]? =w.heap[b]? :=fun b ad=>q7.block b ad
  have fh:=ir.new (w':=w') n jl (Nat.le_refl _) (Nat.le_refl _) (.row false (bc.t 23) (b5 c) (l.map (cj c))) bp q7.os q7.tape q7.output q7.size hw (fun b ad=>by
   obtain⟨_,dm⟩:=hv
   rcases dm with⟨aE,_⟩|⟨g,hW,cur,aE,bo,_⟩
   ·rw[aE]at ad
    simp[b9]at ad
   ·rw[aE]at ad
    simp only[b9]at ad
    split at ad
    ·cases ad
    ·cases ad
     exact bo) rfl (.row (bc.t 23) (b5 c) _ _ (by rw[dT,List.length_map];exact db) ma fun j x af=>by
      have:=q5 j x af
      rw[List.length_map]at this
      exact this.keep (fun b ad=>hw b (au.lt b ad)) fun _ h=>h)
  exact⟨bp,.aR n,_,gQ β n bp,ro,n+1,rfl,⟨rfl,rfl⟩,.aR _ _ (Nat.lt_succ_self _) fun z bI cT dR _=>(dT _ _ _).symm,fh.heap,fh.trans⟩
 cases b with
 |none=>
  have aP:=oL rfl
  have Da:l=[]:=List.map_eq_nil_iff.1 aP
  subst Da;refine Calls.mono (AnyE.slices_Clone_nil L _ _ w) fun e w' ⟨he,hw⟩=>?_
  subst hw;rw[he];exact fin (.slice none 0 0) w' ⟨by simp,.inl ⟨rfl,rfl⟩⟩ (Below.refl _ _)
 |some c8=>
  refine Calls.mono (ziw L i0 z (b5 c) bytes hi lL iG kC fe bY z23 c8 l.length cap ((List.range (l.length*b5 c)).map f) w (by simp) Bh.1 Bh.2 (fun j u af=>?_) (by
   rw[List.length_map]at oN
   exact oN)) fun e w' ⟨bp,he,hv,q7⟩=>?_
  ·have cU:=(List.getElem?_eq_some_iff.1 af).1
   simp only[List.length_map,List.length_range]at cU
   have aa:=hZ c8 rfl j cU
   simp[cU]at af;rw[aa,af]
  ·rw[he]
   exact fin bp w' hv q7
end
end Go.aO
