/- TE, part M: slices.Clone, whatever the elements (the shelf's walk, turned to any address). Conditions: none. -/
import Derived.Shelf.SlicesE.Clone
import Derived.Test.YtmkpmgfieagphaaGreatDoorKTEp
namespace Go.aK
open Go Go.Proofs Go.Shelf Go.RowKit Go.Lib
section
variable {P:Program} {a6:Ren}
set_option maxHeartbeats 2000000 in
set_option maxRecDepth 100000 in
theorem ziE(L:SlLaysE0.n41 P a6)(i0:TypeInfo)(z:Value)(size bytes:Nat)(hi:P.info? (a6.t 23)=some i0)(l1:i0.zero=some z)(iB:i0.size=size)(kN:i0.bytes=bytes)(e9:z.cells.size=size)(bM:0<size)
 (z23: ∀w,(Go.sizeOf (a6.t 23)).run P w= .ok size w)(a:Addr)(n c:Nat)(news:List Value)(w:World)(aq:news.length=n*size)(hn:n≤maxLen)(sj:n*bytes≤140737488355328)
 (hc: ∀j u,news[j]? =some u→w.cell? (a.add j)=some u)(aa: ∀u∈news,u.oneCell'=true):
 Calls P (a6.f 41) #[.slice (some a) n c] w fun e w'=>∃bg,e= .returned bg∧w'.ownsRow w.heap.size (a6.t 23) size bg n news∧Below w.heap.size w w':=by
 have mixed:=L.mixed;have t4:=L.t4;have a4:=L.a4;have z4:=L.z4;have v4:=L.v4;have t22:=L.t22;have a22:=L.a22;have z22:=L.z22;have v22:=L.v22
 have zkd: ∀(w:World) (a:Option Addr) (n c cI lO:Nat),(binOp .eql (a6.t 22) (.slice a n c) (.slice none cI lO)).run P w= .ok (.bool a.isNone) w:=fun w a n c cI lO=>Lib.run_eql_slice_nil w _ _ a n c cI lO L.t22
 have zke: ∀w,Sem.run P (underlying (a6.t 22)) w= .ok (TypeDesc.slice (a6.t 23)) w:=run_underlying t22
 have A:Aside (∀j u,news[j]? =some u→w.cell? (a.add j)=some u):=hc
 clear hc
 obtain⟨_,_,sk⟩:=L.f41
 go_enter sk,SlBodyN.n41_ntmps a6
 go_wp2_with (at_builtin;refine wpList_append_own _ rfl _ _ (a6.t 22) rfl w.heap.size (a6.t 23) i0 z size bytes t22 hi l1 iB kN e9 bM _ _ _ rfl (World.ownsRow_made w #[] 0 (Nat.le_refl _) (Nat.zero_le _) (by simp)) a n c news rfl ?ziF ?ziG ?ziH ?ziI ?ziJ ?ziK ?_)
 case ziF=>exact aq
 case ziG=>
  intro j u af;exact Lib.cell?_alloc_some _ (A.out j u af)
 case ziH=>exact aa
 case ziI=>rw[Nat.zero_add];exact hn
 case ziJ=>rw[Nat.zero_add];exact sj
 case ziK=>simp
 intro bg cJ hA ziL rJ
 go_wp2
 go_ret
 exact⟨bg,rfl,by simpa using hA,((Below.refl _ w).alloc (Nat.le_refl _) _).grown ziL (by simp) (by intro k aj;simp[Value.ownBlock]at aj;omega)⟩
theorem zq{G:a7}{c:bK}(L:SlLaysE0.n41 P a6)(i0:TypeInfo)(z:Value)(bytes:Nat)(hi:P.info? (a6.t 23)=some i0)(l1:i0.zero=some z)(iB:i0.size=bY c)(kN:i0.bytes=bytes)(e9:z.cells.size=bY c)(bM:0<bY c)
 (z23: ∀w,(Go.sizeOf (a6.t 23)).run P w= .ok (bY c) w):nL P G ⟨a6.f 41,a6.t 23,c,bytes⟩:=by
 intro σ n y l ax BC w β ro ec aa ae au aP bE
 have Oq:=ae 0 y rfl
 have sh:ec= #[ec.getD 0 undef]:=by
  have ai:ec.size=1:=aa
  apply Array.ext
  ·simpa using ai
  ·intro i yu mv
   have:i=0:=by omega
   subst this;simp[Array.getD,ai]
 obtain⟨b,cap,iR,mq,o6,f,h4,o7⟩:=w2 au Oq ax
 obtain⟨nY,o8,rK⟩:=z1 mq o7
 rw[sh,iR]
 rw[List.length_map]at nY h4⊢
 have e2:c2 ⟨w,ro,σ,β,n⟩ G ⟨[],σ,n,n⟩ ⟨#[],[]⟩ w β ro:=⟨rfl,rfl,by simp,au,aP,⟨rfl,rfl,rfl,Nat.le_refl _,fun _ _ _=>rfl,fun _ h=>.inl h,fun _ h=>h,fun _ h=>.inl h,fun id _ o ah=>⟨by simp[ah],rfl⟩,bE,Nat.le_refl _⟩,Nat.le_refl _⟩
 have jl:aE σ n=none:=by
  cases ah:aE σ n with
  |none=>rfl
  |some p=>have:=bE _ _ ah;omega
 have fin: ∀(bg:Value) (w':World),w'.ownsRow w.heap.size (a6.t 23) (bY c) bg l.length ((List.range (l.length*bY c)).map f)→Below w.heap.size w w'→
  ∃v r eU dL ro' cI,Ending.returned bg=Ending.returned v∧(r=aD.aN n∧eU=(n,.row false (a6.t 23) (bY c) (l.map (b9 c)))::σ)∧br w' ro' eU dL cI r v∧hh w' ro' eU dL cI∧Trans ⟨w,ro,σ,β,n⟩ w' ro' eU dL cI:=by
  intro bg w' hA rM
  have cY:ia w' (a6.t 23) (bY c) bg l.length ((List.range (l.length*bY c)).map f):=ia.Dy (by
   obtain⟨c0,df⟩:=hA
   refine⟨c0,df.imp id fun⟨g,h0,cur,aB,_,cj⟩=>⟨g,h0,cur,aB,Nat.zero_le _,cj⟩⟩)
  have hw: ∀b,b<w.heap.size→w'.heap[b]? =w.heap[b]? :=fun b ad=>rM.block b ad
  have fc:=e2.new (w':=w') n jl (Nat.le_refl _) (Nat.le_refl _) (.row false (a6.t 23) (bY c) (l.map (b9 c))) bg rM.os rM.tape rM.output rM.size hw (fun b ad=>by
   obtain⟨_,df⟩:=hA
   rcases df with⟨aB,_⟩|⟨g,h0,cur,aB,bd,_⟩
   ·rw[aB]at ad
    simp[b2]at ad
   ·rw[aB]at ad
    simp only[b2]at ad
    split at ad
    ·cases ad
    ·cases ad
     exact bd) rfl (.row (a6.t 23) (bY c) _ _ (by rw[dR,List.length_map];exact cY) mq fun j x af=>by
      have:=rK j x af
      rw[List.length_map]at this
      exact this.keep (fun b ad=>hw b (au.lt b ad)) fun _ h=>h)
  exact⟨bg,.aN n,_,gV β n bg,ro,n+1,rfl,⟨rfl,rfl⟩,.aN _ _ (Nat.lt_succ_self _) fun z bC cI dP _=>(dR _ _ _).symm,fc.heap,fc.trans⟩
 cases b with
 |none=>
  have aL:=o6 rfl
  have Dq:l=[]:=List.map_eq_nil_iff.1 aL
  subst Dq;refine Calls.mono (AnyE.slices_Clone_nil L _ _ w) fun e w' ⟨he,hw⟩=>?_
  subst hw;rw[he];exact fin (.slice none 0 0) w' ⟨by simp,.inl ⟨rfl,rfl⟩⟩ (Below.refl _ _)
 |some cW=>
  refine Calls.mono (ziE L i0 z (bY c) bytes hi l1 iB kN e9 bM z23 cW l.length cap ((List.range (l.length*bY c)).map f) w (by simp) BC.1 BC.2 (fun j u af=>?_) (by
   rw[List.length_map]at o8
   exact o8)) fun e w' ⟨bg,he,hA,rM⟩=>?_
  ·have cL:=(List.getElem?_eq_some_iff.1 af).1
   simp only[List.length_map,List.length_range]at cL
   have aa:=h4 cW rfl j cL
   simp[cL]at af;rw[aa,af]
  ·rw[he]
   exact fin bg w' hA rM
end
end Go.aK
