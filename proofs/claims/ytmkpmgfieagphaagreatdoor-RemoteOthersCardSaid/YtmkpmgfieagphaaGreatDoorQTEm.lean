/- TE, part M: slices.Clone, whatever the elements (the shelf's walk, turned to any address). Conditions: none. -/
import Derived.Shelf.SlicesE.Clone
import Derived.Test.YtmkpmgfieagphaaGreatDoorQTEp
namespace Go.aK
open Go Go.Proofs Go.Shelf Go.RowKit Go.Lib
section
variable {P:Program} {a7:Ren}
set_option maxHeartbeats 2000000 in
set_option maxRecDepth 100000 in
theorem zg5(L:SlLaysE0.n41 P a7)(i0:TypeInfo)(z:Value)(size bytes:Nat)(hi:P.info? (a7.t 23)=some i0)(lE:i0.zero=some z)(iu:i0.size=size)(ku:i0.bytes=bytes)(e8:z.cells.size=size)(bQ:0<size)
 (z23: ∀w,(Go.sizeOf (a7.t 23)).run P w= .ok size w)(a:Addr)(n c:Nat)(news:List Value)(w:World)(ar:news.length=n*size)(hn:n≤maxLen)(rF:n*bytes≤140737488355328)
 (hc: ∀j u,news[j]? =some u→w.cell? (a.add j)=some u)(aa: ∀u∈news,u.oneCell'=true):
 Calls P (a7.f 41) #[.slice (some a) n c] w fun e w'=>∃bg,e= .returned bg∧w'.ownsRow w.heap.size (a7.t 23) size bg n news∧Below w.heap.size w w':=by
 have mixed:=L.mixed;have t4:=L.t4;have a4:=L.a4;have z4:=L.z4;have v4:=L.v4;have t22:=L.t22;have a22:=L.a22;have z22:=L.z22;have v22:=L.v22
 have ziG: ∀(w:World) (a:Option Addr) (n c cH lp:Nat),(binOp .eql (a7.t 22) (.slice a n c) (.slice none cH lp)).run P w= .ok (.bool a.isNone) w:=fun w a n c cH lp=>Lib.run_eql_slice_nil w _ _ a n c cH lp L.t22
 have ziH: ∀w,Sem.run P (underlying (a7.t 22)) w= .ok (TypeDesc.slice (a7.t 23)) w:=run_underlying t22
 have A:Aside (∀j u,news[j]? =some u→w.cell? (a.add j)=some u):=hc
 clear hc
 obtain⟨_,_,rG⟩:=L.f41
 go_enter rG,SlBodyN.n41_ntmps a7
 go_wp2_with (at_builtin;refine wpList_append_own _ rfl _ _ (a7.t 22) rfl w.heap.size (a7.t 23) i0 z size bytes t22 hi lE iu ku e8 bQ _ _ _ rfl (World.ownsRow_made w #[] 0 (Nat.le_refl _) (Nat.zero_le _) (by simp)) a n c news rfl ?zg6 ?zg7 ?zg8 ?zg9 ?zha ?zhb ?_)
 case zg6=>exact ar
 case zg7=>
  intro j u af;exact Lib.cell?_alloc_some _ (A.out j u af)
 case zg8=>exact aa
 case zg9=>rw[Nat.zero_add];exact hn
 case zha=>rw[Nat.zero_add];exact rF
 case zhb=>simp
 intro bg dk hs zhc qV
 go_wp2
 go_ret
 exact⟨bg,rfl,by simpa using hs,((Below.refl _ w).alloc (Nat.le_refl _) _).grown zhc (by simp) (by intro k aj;simp[Value.ownBlock]at aj;omega)⟩
theorem yk{G:a8}{c:bF}(L:SlLaysE0.n41 P a7)(i0:TypeInfo)(z:Value)(bytes:Nat)(hi:P.info? (a7.t 23)=some i0)(lE:i0.zero=some z)(iu:i0.size=bZ c)(ku:i0.bytes=bytes)(e8:z.cells.size=bZ c)(bQ:0<bZ c)
 (z23: ∀w,(Go.sizeOf (a7.t 23)).run P w= .ok (bZ c) w):na P G ⟨a7.f 41,a7.t 23,c,bytes⟩:=by
 intro σ n y l ax AB w β ro ea aa ae av aQ bL
 have M1:=ae 0 y rfl
 have rD:ea= #[ea.getD 0 undef]:=by
  have ai:ea.size=1:=aa
  apply Array.ext
  ·simpa using ai
  ·intro i xE l4
   have:i=0:=by omega
   subst this;simp[Array.getD,ai]
 obtain⟨b,cap,iG,l2,oA,f,hX,oB⟩:=vW av M1 ax
 obtain⟨nt,oC,qW⟩:=yX l2 oB
 rw[rD,iG]
 rw[List.length_map]at nt hX⊢
 have iR:c3 ⟨w,ro,σ,β,n⟩ G ⟨[],σ,n,n⟩ ⟨#[],[]⟩ w β ro:=⟨rfl,rfl,by simp,av,aQ,⟨rfl,rfl,rfl,Nat.le_refl _,fun _ _ _=>rfl,fun _ h=>.inl h,fun _ h=>h,fun _ h=>.inl h,fun id _ o ah=>⟨by simp[ah],rfl⟩,bL,Nat.le_refl _⟩,Nat.le_refl _⟩
 have jc:aD σ n=none:=by
  cases ah:aD σ n with
  |none=>rfl
  |some p=>have:=bL _ _ ah;omega
 have fin: ∀(bg:Value) (w':World),w'.ownsRow w.heap.size (a7.t 23) (bZ c) bg l.length ((List.range (l.length*bZ c)).map f)→Below w.heap.size w w'→
  ∃v r eU dK ro' cH,Ending.returned bg=Ending.returned v∧(r=aC.aM n∧eU=(n,.row false (a7.t 23) (bZ c) (l.map (b9 c)))::σ)∧bp w' ro' eU dK cH r v∧gX w' ro' eU dK cH∧Trans ⟨w,ro,σ,β,n⟩ w' ro' eU dK cH:=by
  intro bg w' hs qY
  have cZ:h2 w' (a7.t 23) (bZ c) bg l.length ((List.range (l.length*bZ c)).map f):=h2.Cl (by
   obtain⟨c1,di⟩:=hs
   refine⟨c1,di.imp id fun⟨g,hT,cur,aA,_,ct⟩=>⟨g,hT,cur,aA,Nat.zero_le _,ct⟩⟩)
  have hw: ∀b,b<w.heap.size→w'.heap[b]? =w.heap[b]? :=fun b ad=>qY.block b ad
  have fb:=iR.new (w':=w') n jc (Nat.le_refl _) (Nat.le_refl _) (.row false (a7.t 23) (bZ c) (l.map (b9 c))) bg qY.os qY.tape qY.output qY.size hw (fun b ad=>by
   obtain⟨_,di⟩:=hs
   rcases di with⟨aA,_⟩|⟨g,hT,cur,aA,bh,_⟩
   ·rw[aA]at ad
    simp[b5]at ad
   ·rw[aA]at ad
    simp only[b5]at ad
    split at ad
    ·cases ad
    ·cases ad
     exact bh) rfl (.row (a7.t 23) (bZ c) _ _ (by rw[dP,List.length_map];exact cZ) l2 fun j x af=>by
      have:=qW j x af
      rw[List.length_map]at this
      exact this.keep (fun b ad=>hw b (av.lt b ad)) fun _ h=>h)
  exact⟨bg,.aM n,_,gN β n bg,ro,n+1,rfl,⟨rfl,rfl⟩,.aM _ _ (Nat.lt_succ_self _) fun z bz cH dN _=>(dP _ _ _).symm,fb.heap,fb.trans⟩
 cases b with
 |none=>
  have aP:=oA rfl
  have Cd:l=[]:=List.map_eq_nil_iff.1 aP
  subst Cd;refine Calls.mono (AnyE.slices_Clone_nil L _ _ w) fun e w' ⟨he,hw⟩=>?_
  subst hw;rw[he];exact fin (.slice none 0 0) w' ⟨by simp,.inl ⟨rfl,rfl⟩⟩ (Below.refl _ _)
 |some cW=>
  refine Calls.mono (zg5 L i0 z (bZ c) bytes hi lE iu ku e8 bQ z23 cW l.length cap ((List.range (l.length*bZ c)).map f) w (by simp) AB.1 AB.2 (fun j u af=>?_) (by
   rw[List.length_map]at oC
   exact oC)) fun e w' ⟨bg,he,hs,qY⟩=>?_
  ·have cJ:=(List.getElem?_eq_some_iff.1 af).1
   simp only[List.length_map,List.length_range]at cJ
   have aa:=hX cW rfl j cJ
   simp[cJ]at af;rw[aa,af]
  ·rw[he]
   exact fin bg w' hs qY
end
end Go.aK
