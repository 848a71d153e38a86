/- TE, part M: slices.Clone, whatever the elements (the shelf's walk, turned to any address). Conditions: none. -/
import Derived.Shelf.SlicesE.Clone
import Derived.Test.YtmkpmgfieagphaaGreatDoorHTEp
namespace Go.aN
open Go Go.Proofs Go.Shelf Go.RowKit Go.Lib
section
variable {P:Program} {bb:Ren}
set_option maxHeartbeats 2000000 in
set_option maxRecDepth 100000 in
theorem zkR(L:SlLaysE0.n41 P bb)(i0:TypeInfo)(z:Value)(size bytes:Nat)(hi:P.info? (bb.t 23)=some i0)(l4:i0.zero=some z)(iK:i0.size=size)(kR:i0.bytes=bytes)(fe:z.cells.size=size)(bV:0<size)
 (z23: ∀w,(Go.sizeOf (bb.t 23)).run P w= .ok size w)(a:Addr)(n c:Nat)(news:List Value)(w:World)(aq:news.length=n*size)(hn:n≤maxLen)(sk:n*bytes≤140737488355328)
 (hc: ∀j u,news[j]? =some u→w.cell? (a.add j)=some u)(aa: ∀u∈news,u.oneCell'=true):
 Calls P (bb.f 41) #[.slice (some a) n c] w fun e w'=>∃bo,e= .returned bo∧w'.ownsRow w.heap.size (bb.t 23) size bo n news∧Below w.heap.size w w':=by
 have mixed:=L.mixed;have t4:=L.t4;have a4:=L.a4;have z4:=L.z4;have v4:=L.v4;have t22:=L.t22;have a22:=L.a22;have z22:=L.z22;have v22:=L.v22
 have zms: ∀(w:World) (a:Option Addr) (n c cS j5:Nat),(binOp .eql (bb.t 22) (.slice a n c) (.slice none cS j5)).run P w= .ok (.bool a.isNone) w:=fun w a n c cS j5=>Lib.run_eql_slice_nil w _ _ a n c cS j5 L.t22
 have zmt: ∀w,Sem.run P (underlying (bb.t 22)) w= .ok (TypeDesc.slice (bb.t 23)) w:=run_underlying t22
 have A:Aside (∀j u,news[j]? =some u→w.cell? (a.add j)=some u):=hc
 clear hc
 obtain⟨_,_,sl⟩:=L.f41
 go_enter sl,SlBodyN.n41_ntmps bb
 go_wp2_with (at_builtin;refine wpList_append_own _ rfl _ _ (bb.t 22) rfl w.heap.size (bb.t 23) i0 z size bytes t22 hi l4 iK kR fe bV _ _ _ rfl (World.ownsRow_made w #[] 0 (Nat.le_refl _) (Nat.zero_le _) (by simp)) a n c news rfl ?zkS ?zkT ?zkU ?zkV ?zkW ?zkX ?_)
 case zkS=>exact aq
 case zkT=>
  intro j u af;exact Lib.cell?_alloc_some _ (A.out j u af)
 case zkU=>exact aa
 case zkV=>rw[Nat.zero_add];exact hn
 case zkW=>rw[Nat.zero_add];exact sk
 case zkX=>simp
 intro bo cP hG zkY rJ
 go_wp2
 go_ret
 exact⟨bo,rfl,by simpa using hG,((Below.refl _ w).alloc (Nat.le_refl _) _).grown zkY (by simp) (by intro k aj;simp[Value.ownBlock]at aj;omega)⟩
theorem Al{G:bc}{c:bR}(L:SlLaysE0.n41 P bb)(i0:TypeInfo)(z:Value)(bytes:Nat)(hi:P.info? (bb.t 23)=some i0)(l4:i0.zero=some z)(iK:i0.size=b4 c)(kR:i0.bytes=bytes)(fe:z.cells.size=b4 c)(bV:0<b4 c)
 (z23: ∀w,(Go.sizeOf (bb.t 23)).run P w= .ok (b4 c) w):nU P G ⟨bb.f 41,bb.t 23,c,bytes⟩:=by
 intro σ n y l ay Co w β ro ei aa ae au aR bN
 have PX:=ae 0 y rfl
 have si:ei= #[ei.getD 0 undef]:=by
  have ai:ei.size=1:=aa
  apply Array.ext
  ·simpa using ai
  ·intro i yS mE
   have:i=0:=by omega
   subst this;simp[Array.getD,ai]
 obtain⟨b,cap,iU,mC,pb,f,ia,pc⟩:=xq au PX ay
 obtain⟨n8,pd,rK⟩:=AT mC pc
 rw[si,iU]
 rw[List.length_map]at n8 ia⊢
 have gV:dc ⟨w,ro,σ,β,n⟩ G ⟨[],σ,n,n⟩ ⟨#[],[]⟩ w β ro:=⟨rfl,rfl,by simp,au,aR,⟨rfl,rfl,rfl,Nat.le_refl _,fun _ _ _=>rfl,fun _ h=>.inl h,fun _ h=>h,fun _ h=>.inl h,fun id _ o ah=>⟨by simp[ah],rfl⟩,bN,Nat.le_refl _⟩,Nat.le_refl _⟩
 have jq:aE σ n=none:=by
  cases ah:aE σ n with
  |none=>rfl
  |some p=>have:=bN _ _ ah;omega
 have fin: ∀(bo:Value) (w':World),w'.ownsRow w.heap.size (bb.t 23) (b4 c) bo l.length ((List.range (l.length*b4 c)).map f)→Below w.heap.size w w'→
  ∃v r eZ dU ro' cS,Ending.returned bo=Ending.returned v∧(r=aD.aP n∧eZ=(n,.row false (bb.t 23) (b4 c) (l.map (ck c)))::σ)∧bG w' ro' eZ dU cS r v∧ho w' ro' eZ dU cS∧Trans ⟨w,ro,σ,β,n⟩ w' ro' eZ dU cS:=by
  intro bo w' hG rM
  have da:ij w' (bb.t 23) (b4 c) bo l.length ((List.range (l.length*b4 c)).map f):=ij.En (by
   obtain⟨cR,c7⟩:=hG
   refine⟨cR,c7.imp id fun⟨g,h6,cur,aB,_,cx⟩=>⟨g,h6,cur,aB,Nat.zero_le _,cx⟩⟩)
  have hw: ∀b,b<w.heap.size→w'.heap[b]? =w.heap[b]? :=fun b ad=>rM.block b ad
  have fh:=gV.new (w':=w') n jq (Nat.le_refl _) (Nat.le_refl _) (.row false (bb.t 23) (b4 c) (l.map (ck c))) bo rM.os rM.tape rM.output rM.size hw (fun b ad=>by
   obtain⟨_,c7⟩:=hG
   rcases c7 with⟨aB,_⟩|⟨g,h6,cur,aB,bl,_⟩
   ·rw[aB]at ad
    simp[cb]at ad
   ·rw[aB]at ad
    simp only[cb]at ad
    split at ad
    ·cases ad
    ·cases ad
     exact bl) rfl (.row (bb.t 23) (b4 c) _ _ (by rw[dZ,List.length_map];exact da) mC fun j x af=>by
      have:=rK j x af
      rw[List.length_map]at this
      exact this.keep (fun b ad=>hw b (au.lt b ad)) fun _ h=>h)
  exact⟨bo,.aP n,_,gX β n bo,ro,n+1,rfl,⟨rfl,rfl⟩,.aP _ _ (Nat.lt_succ_self _) fun z bL cS dX _=>(dZ _ _ _).symm,fh.heap,fh.trans⟩
 cases b with
 |none=>
  have aJ:=pb rfl
  have Ef:l=[]:=List.map_eq_nil_iff.1 aJ
  subst Ef;refine Calls.mono (AnyE.slices_Clone_nil L _ _ w) fun e w' ⟨he,hw⟩=>?_
  subst hw;rw[he];exact fin (.slice none 0 0) w' ⟨by simp,.inl ⟨rfl,rfl⟩⟩ (Below.refl _ _)
 |some c8=>
  refine Calls.mono (zkR L i0 z (b4 c) bytes hi l4 iK kR fe bV z23 c8 l.length cap ((List.range (l.length*b4 c)).map f) w (by simp) Co.1 Co.2 (fun j u af=>?_) (by
   rw[List.length_map]at pd
   exact pd)) fun e w' ⟨bo,he,hG,rM⟩=>?_
  ·have cW:=(List.getElem?_eq_some_iff.1 af).1
   simp only[List.length_map,List.length_range]at cW
   have aa:=ia c8 rfl j cW
   simp[cW]at af;rw[aa,af]
  ·rw[he]
   exact fin bo w' hG rM
end
end Go.aN
