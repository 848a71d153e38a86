/- TE, part M: slices.Clone, whatever the elements (the shelf's walk, turned to any address). Conditions: none. -/
import Derived.Shelf.SlicesE.Clone
import Derived.Test.YtmkpmgfieagphaaGreatDoorJTEp
namespace Go.aM
open Go Go.Proofs Go.Shelf Go.RowKit Go.Lib
section
variable {P:Program} {a7:Ren}
set_option maxHeartbeats 2000000 in
set_option maxRecDepth 100000 in
theorem zhv(L:SlLaysE0.n41 P a7)(i0:TypeInfo)(z:Value)(size bytes:Nat)(hi:P.info? (a7.t 23)=some i0)(lY:i0.zero=some z)(iB:i0.size=size)(kN:i0.bytes=bytes)(e9:z.cells.size=size)(bP:0<size)
 (z23: ∀w,(Go.sizeOf (a7.t 23)).run P w= .ok size w)(a:Addr)(n c:Nat)(news:List Value)(w:World)(ar:news.length=n*size)(hn:n≤maxLen)(sb:n*bytes≤140737488355328)
 (hc: ∀j u,news[j]? =some u→w.cell? (a.add j)=some u)(aa: ∀u∈news,u.oneCell'=true):
 Calls P (a7.f 41) #[.slice (some a) n c] w fun e w'=>∃bh,e= .returned bh∧w'.ownsRow w.heap.size (a7.t 23) size bh n news∧Below w.heap.size w w':=by
 have mixed:=L.mixed;have t4:=L.t4;have a4:=L.a4;have z4:=L.z4;have v4:=L.v4;have t22:=L.t22;have a22:=L.a22;have z22:=L.z22;have v22:=L.v22
 have ziZ: ∀(w:World) (a:Option Addr) (n c cJ lL:Nat),(binOp .eql (a7.t 22) (.slice a n c) (.slice none cJ lL)).run P w= .ok (.bool a.isNone) w:=fun w a n c cJ lL=>Lib.run_eql_slice_nil w _ _ a n c cJ lL L.t22
 have zi0: ∀w,Sem.run P (underlying (a7.t 22)) w= .ok (TypeDesc.slice (a7.t 23)) w:=run_underlying t22
 have A:Aside (∀j u,news[j]? =some u→w.cell? (a.add j)=some u):=hc
 clear hc
 obtain⟨_,_,sc⟩:=L.f41
 go_enter sc,SlBodyN.n41_ntmps a7
 go_wp2_with (at_builtin;refine wpList_append_own _ rfl _ _ (a7.t 22) rfl w.heap.size (a7.t 23) i0 z size bytes t22 hi lY iB kN e9 bP _ _ _ rfl (World.ownsRow_made w #[] 0 (Nat.le_refl _) (Nat.zero_le _) (by simp)) a n c news rfl ?zhw ?zhx ?zhy ?zhz ?zhA ?zhB ?_)
 case zhw=>exact ar
 case zhx=>
  intro j u ag;exact Lib.cell?_alloc_some _ (A.out j u ag)
 case zhy=>exact aa
 case zhz=>rw[Nat.zero_add];exact hn
 case zhA=>rw[Nat.zero_add];exact sb
 case zhB=>simp
 intro bh dx hA zhC rB
 go_wp2
 go_ret
 exact⟨bh,rfl,by simpa using hA,((Below.refl _ w).alloc (Nat.le_refl _) _).grown zhC (by simp) (by intro k aj;simp[Value.ownBlock]at aj;omega)⟩
theorem y2{G:a8}{c:bL}(L:SlLaysE0.n41 P a7)(i0:TypeInfo)(z:Value)(bytes:Nat)(hi:P.info? (a7.t 23)=some i0)(lY:i0.zero=some z)(iB:i0.size=bZ c)(kN:i0.bytes=bytes)(e9:z.cells.size=bZ c)(bP:0<bZ c)
 (z23: ∀w,(Go.sizeOf (a7.t 23)).run P w= .ok (bZ c) w):nL P G ⟨a7.f 41,a7.t 23,c,bytes⟩:=by
 intro σ n y l ax Bi w β ro ea aa ae au aR bA
 have NY:=ae 0 y rfl
 have r9:ea= #[ea.getD 0 undef]:=by
  have ai:ea.size=1:=aa
  apply Array.ext
  ·simpa using ai
  ·intro i yd my
   have:i=0:=by omega
   subst this;simp[Array.getD,ai]
 obtain⟨b,cap,iN,mv,o4,f,h5,o5⟩:=wK au NY ax
 obtain⟨n1,o6,rC⟩:=zF mv o5
 rw[r9,iN]
 rw[List.length_map]at n1 h5⊢
 have gQ:c5 ⟨w,ro,σ,β,n⟩ G ⟨[],σ,n,n⟩ ⟨#[],[]⟩ w β ro:=⟨rfl,rfl,by simp,au,aR,⟨rfl,rfl,rfl,Nat.le_refl _,fun _ _ _=>rfl,fun _ h=>.inl h,fun _ h=>h,fun _ h=>.inl h,fun id _ o ah=>⟨by simp[ah],rfl⟩,bA,Nat.le_refl _⟩,Nat.le_refl _⟩
 have jl:aE σ n=none:=by
  cases ah:aE σ n with
  |none=>rfl
  |some p=>have:=bA _ _ ah;omega
 have fin: ∀(bh:Value) (w':World),w'.ownsRow w.heap.size (a7.t 23) (bZ c) bh l.length ((List.range (l.length*bZ c)).map f)→Below w.heap.size w w'→
  ∃v r eV dL ro' cJ,Ending.returned bh=Ending.returned v∧(r=aD.aO n∧eV=(n,.row false (a7.t 23) (bZ c) (l.map (cb c)))::σ)∧bs w' ro' eV dL cJ r v∧hb w' ro' eV dL cJ∧Trans ⟨w,ro,σ,β,n⟩ w' ro' eV dL cJ:=by
  intro bh w' hA rE
  have c1:ib w' (a7.t 23) (bZ c) bh l.length ((List.range (l.length*bZ c)).map f):=ib.Da (by
   obtain⟨c3,dj⟩:=hA
   refine⟨c3,dj.imp id fun⟨g,h1,cur,aC,_,cg⟩=>⟨g,h1,cur,aC,Nat.zero_le _,cg⟩⟩)
  have hw: ∀b,b<w.heap.size→w'.heap[b]? =w.heap[b]? :=fun b ad=>rE.block b ad
  have fc:=gQ.new (w':=w') n jl (Nat.le_refl _) (Nat.le_refl _) (.row false (a7.t 23) (bZ c) (l.map (cb c))) bh rE.os rE.tape rE.output rE.size hw (fun b ad=>by
   obtain⟨_,dj⟩:=hA
   rcases dj with⟨aC,_⟩|⟨g,h1,cur,aC,bf,_⟩
   ·rw[aC]at ad
    simp[b4]at ad
   ·rw[aC]at ad
    simp only[b4]at ad
    split at ad
    ·cases ad
    ·cases ad
     exact bf) rfl (.row (a7.t 23) (bZ c) _ _ (by rw[dR,List.length_map];exact c1) mv fun j x ag=>by
      have:=rC j x ag
      rw[List.length_map]at this
      exact this.keep (fun b ad=>hw b (au.lt b ad)) fun _ h=>h)
  exact⟨bh,.aO n,_,gS β n bh,ro,n+1,rfl,⟨rfl,rfl⟩,.aO _ _ (Nat.lt_succ_self _) fun z bz cJ dP _=>(dR _ _ _).symm,fc.heap,fc.trans⟩
 cases b with
 |none=>
  have aH:=o4 rfl
  have C2:l=[]:=List.map_eq_nil_iff.1 aH
  subst C2;refine Calls.mono (AnyE.slices_Clone_nil L _ _ w) fun e w' ⟨he,hw⟩=>?_
  subst hw;rw[he];exact fin (.slice none 0 0) w' ⟨by simp,.inl ⟨rfl,rfl⟩⟩ (Below.refl _ _)
 |some cY=>
  refine Calls.mono (zhv L i0 z (bZ c) bytes hi lY iB kN e9 bP z23 cY l.length cap ((List.range (l.length*bZ c)).map f) w (by simp) Bi.1 Bi.2 (fun j u ag=>?_) (by
   rw[List.length_map]at o6
   exact o6)) fun e w' ⟨bh,he,hA,rE⟩=>?_
  ·have cL:=(List.getElem?_eq_some_iff.1 ag).1
   simp only[List.length_map,List.length_range]at cL
   have aa:=h5 cY rfl j cL
   simp[cL]at ag;rw[aa,ag]
  ·rw[he]
   exact fin bh w' hA rE
end
end Go.aM
