/- TE, part M: slices.Clone, whatever the elements (the shelf's walk, turned to any address). Conditions: none. -/
import Derived.Shelf.SlicesE.Clone
import Derived.Test.YtmkpmgfieagphaaGreatDoorKTEp
namespace Go.aL
open Go Go.Proofs Go.Shelf Go.RowKit Go.Lib
section
variable {P:Program} {a7:Ren}
set_option maxHeartbeats 2000000 in
set_option maxRecDepth 100000 in
theorem ziE(L:SlLaysE0.n41 P a7)(i0:TypeInfo)(z:Value)(size bytes:Nat)(hi:P.info? (a7.t 23)=some i0)(l2:i0.zero=some z)(iC:i0.size=size)(kO:i0.bytes=bytes)(fa:z.cells.size=size)(bN:0<size)
 (z23: ∀w,(Go.sizeOf (a7.t 23)).run P w= .ok size w)(a:Addr)(n c:Nat)(news:List Value)(w:World)(aq:news.length=n*size)(hn:n≤maxLen)(sk:n*bytes≤140737488355328)
 (hc: ∀j u,news[j]? =some u→w.cell? (a.add j)=some u)(aa: ∀u∈news,u.oneCell'=true):
 Calls P (a7.f 41) #[.slice (some a) n c] w fun e w'=>∃bh,e= .returned bh∧w'.ownsRow w.heap.size (a7.t 23) size bh n news∧Below w.heap.size w w':=by
 have mixed:=L.mixed;have t4:=L.t4;have a4:=L.a4;have z4:=L.z4;have v4:=L.v4;have t22:=L.t22;have a22:=L.a22;have z22:=L.z22;have v22:=L.v22
 have zkd: ∀(w:World) (a:Option Addr) (n c cJ lP:Nat),(binOp .eql (a7.t 22) (.slice a n c) (.slice none cJ lP)).run P w= .ok (.bool a.isNone) w:=fun w a n c cJ lP=>Lib.run_eql_slice_nil w _ _ a n c cJ lP L.t22
 have zke: ∀w,Sem.run P (underlying (a7.t 22)) w= .ok (TypeDesc.slice (a7.t 23)) w:=run_underlying t22
 have A:Aside (∀j u,news[j]? =some u→w.cell? (a.add j)=some u):=hc
 clear hc
 obtain⟨_,_,sl⟩:=L.f41
 go_enter sl,SlBodyN.n41_ntmps a7
 go_wp2_with (at_builtin;refine wpList_append_own _ rfl _ _ (a7.t 22) rfl w.heap.size (a7.t 23) i0 z size bytes t22 hi l2 iC kO fa bN _ _ _ rfl (World.ownsRow_made w #[] 0 (Nat.le_refl _) (Nat.zero_le _) (by simp)) a n c news rfl ?ziF ?ziG ?ziH ?ziI ?ziJ ?ziK ?_)
 case ziF=>exact aq
 case ziG=>
  intro j u af;exact Lib.cell?_alloc_some _ (A.out j u af)
 case ziH=>exact aa
 case ziI=>rw[Nat.zero_add];exact hn
 case ziJ=>rw[Nat.zero_add];exact sk
 case ziK=>simp
 intro bh cK hB ziL rK
 go_wp2
 go_ret
 exact⟨bh,rfl,by simpa using hB,((Below.refl _ w).alloc (Nat.le_refl _) _).grown ziL (by simp) (by intro k aj;simp[Value.ownBlock]at aj;omega)⟩
theorem zr{G:a8}{c:bL}(L:SlLaysE0.n41 P a7)(i0:TypeInfo)(z:Value)(bytes:Nat)(hi:P.info? (a7.t 23)=some i0)(l2:i0.zero=some z)(iC:i0.size=bZ c)(kO:i0.bytes=bytes)(fa:z.cells.size=bZ c)(bN:0<bZ c)
 (z23: ∀w,(Go.sizeOf (a7.t 23)).run P w= .ok (bZ c) w):nM P G ⟨a7.f 41,a7.t 23,c,bytes⟩:=by
 intro σ n y l ax BD w β ro ed aa ae au aQ bF
 have Ot:=ae 0 y rfl
 have si:ed= #[ed.getD 0 undef]:=by
  have ai:ed.size=1:=aa
  apply Array.ext
  ·simpa using ai
  ·intro i yv mw
   have:i=0:=by omega
   subst this;simp[Array.getD,ai]
 obtain⟨b,cap,iS,mr,o7,f,h5,o8⟩:=w3 au Ot ax
 obtain⟨nZ,o9,rL⟩:=z6 mr o8
 rw[si,iS]
 rw[List.length_map]at nZ h5⊢
 have e3:c3 ⟨w,ro,σ,β,n⟩ G ⟨[],σ,n,n⟩ ⟨#[],[]⟩ w β ro:=⟨rfl,rfl,by simp,au,aQ,⟨rfl,rfl,rfl,Nat.le_refl _,fun _ _ _=>rfl,fun _ h=>.inl h,fun _ h=>h,fun _ h=>.inl h,fun id _ o ah=>⟨by simp[ah],rfl⟩,bF,Nat.le_refl _⟩,Nat.le_refl _⟩
 have jm:aE σ n=none:=by
  cases ah:aE σ n with
  |none=>rfl
  |some p=>have:=bF _ _ ah;omega
 have fin: ∀(bh:Value) (w':World),w'.ownsRow w.heap.size (a7.t 23) (bZ c) bh l.length ((List.range (l.length*bZ c)).map f)→Below w.heap.size w w'→
  ∃v r eV dM ro' cJ,Ending.returned bh=Ending.returned v∧(r=aD.aO n∧eV=(n,.row false (a7.t 23) (bZ c) (l.map (cb c)))::σ)∧bs w' ro' eV dM cJ r v∧hj w' ro' eV dM cJ∧Trans ⟨w,ro,σ,β,n⟩ w' ro' eV dM cJ:=by
  intro bh w' hB rN
  have cZ:ib w' (a7.t 23) (bZ c) bh l.length ((List.range (l.length*bZ c)).map f):=ib.Dz (by
   obtain⟨c1,dg⟩:=hB
   refine⟨c1,dg.imp id fun⟨g,h1,cur,aB,_,ck⟩=>⟨g,h1,cur,aB,Nat.zero_le _,ck⟩⟩)
  have hw: ∀b,b<w.heap.size→w'.heap[b]? =w.heap[b]? :=fun b ad=>rN.block b ad
  have fe:=e3.new (w':=w') n jm (Nat.le_refl _) (Nat.le_refl _) (.row false (a7.t 23) (bZ c) (l.map (cb c))) bh rN.os rN.tape rN.output rN.size hw (fun b ad=>by
   obtain⟨_,dg⟩:=hB
   rcases dg with⟨aB,_⟩|⟨g,h1,cur,aB,bf,_⟩
   ·rw[aB]at ad
    simp[b3]at ad
   ·rw[aB]at ad
    simp only[b3]at ad
    split at ad
    ·cases ad
    ·cases ad
     exact bf) rfl (.row (a7.t 23) (bZ c) _ _ (by rw[dS,List.length_map];exact cZ) mr fun j x af=>by
      have:=rL j x af
      rw[List.length_map]at this
      exact this.keep (fun b ad=>hw b (au.lt b ad)) fun _ h=>h)
  exact⟨bh,.aO n,_,gW β n bh,ro,n+1,rfl,⟨rfl,rfl⟩,.aO _ _ (Nat.lt_succ_self _) fun z bD cJ dQ _=>(dS _ _ _).symm,fe.heap,fe.trans⟩
 cases b with
 |none=>
  have aM:=o7 rfl
  have Dr:l=[]:=List.map_eq_nil_iff.1 aM
  subst Dr;refine Calls.mono (AnyE.slices_Clone_nil L _ _ w) fun e w' ⟨he,hw⟩=>?_
  subst hw;rw[he];exact fin (.slice none 0 0) w' ⟨by simp,.inl ⟨rfl,rfl⟩⟩ (Below.refl _ _)
 |some cX=>
  refine Calls.mono (ziE L i0 z (bZ c) bytes hi l2 iC kO fa bN z23 cX l.length cap ((List.range (l.length*bZ c)).map f) w (by simp) BD.1 BD.2 (fun j u af=>?_) (by
   rw[List.length_map]at o9
   exact o9)) fun e w' ⟨bh,he,hB,rN⟩=>?_
  ·have cM:=(List.getElem?_eq_some_iff.1 af).1
   simp only[List.length_map,List.length_range]at cM
   have aa:=h5 cX rfl j cM
   simp[cM]at af;rw[aa,af]
  ·rw[he]
   exact fin bh w' hB rN
end
end Go.aL
