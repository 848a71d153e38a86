/- CE, part G: calls that are known: copies of slices, the text of a builder, calls that were run before. Conditions: none. -/
import Derived.Test.YtddeffoppnlafaaGreatKCEf
import Derived.Test.YtddeffoppnlafaaGreatKTEm
import Derived.Test.YtddeffoppnlafaaGreatKTEk
namespace Go.aK
open Go Go.Proofs Go.Shelf Go.RowKit Go.Lib
theorem lO.Jy{P:Program}{G:aR}{f:FuncId}{args:List aC}{σ cU:Heap}{n N:Nat}{r:aC}(h:eJ P G f args σ n fun iP cc=>iP=r∧cc=cU)(ah:iq N r=true)(aV:kU N cU=true)(me:n≤N):lO P G f args σ n r cU N:=by
 intro w β ro dJ ab ae aw aM bn
 refine Calls.mono (h w β ro dJ ab ae aw aM bn) fun e w' aG=>?_
 obtain⟨v,iP,cc,cK,ro',bL,rfl,⟨rfl,rfl⟩,dE,gf,aJ⟩:=aG
 refine⟨v,cK,ro',rfl,dE.lower ah,⟨fun id o ai=>?_,gf.inj,gf.e8,gf.lt⟩,⟨aJ.os,aJ.tape,aJ.output,aJ.size,aJ.frame,aJ.hz,aJ.gA,aJ.fU,aJ.ea,fun id o ai=>(qc aV ai).1,me⟩⟩
 obtain⟨_,v7⟩:=qc aV ai
 cases gf.dq id o ai with
 |box t cs b arr aD bg cM dU=>exact .box t cs b arr aD bg cM fun j x aj=>(dU j x aj).lower (ru (v7 t cs rfl) aj)
 |row t n es xs aD bg cM=>exact .row t n es xs aD bg cM
 |fW t n es aD=>exact .fW t n es aD
 |bI bH b o aD bg cM=>exact .bI bH b o aD bg cM
def uw(P:Program)(G:aR)(f:FuncId)(t:TypeId)(m bytes:Nat):Prop:=
 ∀{σ:Heap} {n:Nat} {y:aC} {es:List (List aU)},h0 σ m y=some es→es.length≤maxLen∧es.length*bytes≤140737488355328→
  eJ P G f [y] σ n fun v cc=>v= .aq n∧cc=(n,.row false t m es)::σ
section
variable {P:Program} {ρ:Ren}
theorem Bc{G:aR}{m:Nat}(L:SlLaysE0.n41 P ρ)(i0:TypeInfo)(z:Value)(bytes:Nat)(hi:P.info? (ρ.t 23)=some i0)(Jz:i0.zero=some z)(Bd:i0.size=m)(JA:i0.bytes=bytes)(iu:z.cells.size=m)(bT:0<m)
 (z23: ∀w,(Go.sizeOf (ρ.t 23)).run P w= .ok (m) w):uw P G (ρ.f 41) (ρ.t 23) m bytes:=by
 intro σ n y es aA Rv w β ro dJ ab ae aw aM bn
 have ZD:=ae 0 y rfl
 have v8:dJ= #[dJ.getD 0 undef]:=by
  have ao:dJ.size=1:=ab
  apply Array.ext
  ·simpa using ao
  ·intro i x4 o8
   have:i=0:=by omega
   subst this;simp[Array.getD,ao]
 obtain⟨b,cap,nA,mR,qd,f,jH,qe⟩:=x5 aw ZD aA
 obtain⟨o9,rv,ry⟩:=Be mR qe
 rw[v8,nA]
 have h5:dn ⟨w,ro,σ,β,n,[]⟩ G ⟨[],σ,n,n⟩ ⟨#[],[]⟩ w β ro:=⟨rfl,rfl,by simp,aw,aM,⟨rfl,rfl,rfl,Nat.le_refl _,fun _ _ _=>rfl,fun _ h=>.inl h,fun _ h=>h,fun _ h=>.inl h,fun id _ o ai=>⟨by simp[ai],rfl⟩,bn,Nat.le_refl _⟩,Nat.le_refl _⟩
 have kr:aE σ n=none:=by
  cases ai:aE σ n with
  |none=>rfl
  |some p=>have:=bn _ _ ai;omega
 have fin: ∀(bu:Value) (w':World),w'.ownsRow w.heap.size (ρ.t 23) (m) bu es.length ((List.range (es.length*m)).map f)→Below w.heap.size w w'→
  ∃v r cU cK ro' bL,Ending.returned bu=Ending.returned v∧(r=aC.aq n∧cU=(n,.row false (ρ.t 23) (m) es)::σ)∧bA w' ro' cU cK bL r v∧gI w' ro' cU cK bL∧Trans ⟨w,ro,σ,β,n,[]⟩ w' ro' cU cK bL:=by
  intro bu w' h6 wa
  have dM:kV w' (ρ.t 23) (m) bu es.length ((List.range (es.length*m)).map f):=kV.EK (by
   obtain⟨dp,di⟩:=h6
   refine⟨dp,di.imp id fun⟨g,ht,cur,aD,_,cM⟩=>⟨g,ht,cur,aD,Nat.zero_le _,cM⟩⟩)
  have hw: ∀b,b<w.heap.size→w'.heap[b]? =w.heap[b]? :=fun b ag=>wa.block b ag
  have gh:=h5.new (w':=w') n kr (Nat.le_refl _) (Nat.le_refl _) (.row false (ρ.t 23) (m) es) bu wa.os wa.tape wa.output wa.size hw (fun b ag=>by
   obtain⟨_,di⟩:=h6
   rcases di with⟨aD,_⟩|⟨g,ht,cur,aD,bg,_⟩
   ·rw[aD]at ag
    simp[cz]at ag
   ·rw[aD]at ag
    simp only[cz]at ag
    split at ag
    ·cases ag
    ·cases ag
     exact bg) rfl (.row (ρ.t 23) (m) _ _ (by rw[eT];exact dM) mR fun j x aj=>by
      have:=ry j x aj
      exact this.keep (fun b ag=>hw b (aw.lt b ag)) fun _ h=>h)
  exact⟨bu,.aq n,_,iH β n bu,ro,n+1,rfl,⟨rfl,rfl⟩,.aq _ _ (Nat.lt_succ_self _) fun z bh bL eD _=>(eT _ _ _).symm,gh.heap,gh.trans⟩
 cases b with
 |none=>
  have aS:=qd rfl
  subst aS;refine Calls.mono (AnyE.slices_Clone_nil L _ _ w) fun e w' ⟨he,hw⟩=>?_
  subst hw;rw[he];exact fin (.slice none 0 0) w' ⟨by simp,.inl ⟨rfl,rfl⟩⟩ (Below.refl _ _)
 |some c7=>
  refine Calls.mono (ZE L i0 z (m) bytes hi Jz Bd JA iu bT z23 c7 es.length cap ((List.range (es.length*m)).map f) w (by simp) Rv.1 Rv.2 (fun j u aj=>?_) rv) fun e w' ⟨bu,he,h6,wa⟩=>?_
  ·have dj:=(List.getElem?_eq_some_iff.1 aj).1
   simp only[List.length_map,List.length_range]at dj
   have ab:=jH c7 rfl j dj
   simp[dj]at aj;rw[ab,aj]
  ·rw[he]
   exact fin bu w' h6 wa
end
abbrev Bf:=List (FuncId × TypeId × Nat × Nat)
def EL(f:FuncId):Bf→Option (TypeId × Nat × Nat)
 |[]=>none
 |(g,r)::l=>match Nat.beq g f with
  |true=>some r
  |false=>EL f l
theorem Rw{f:FuncId}{r:TypeId × Nat × Nat}: ∀{l:Bf},EL f l=some r→(f,r)∈l
 |(g,q)::l,h=>by
  simp only[EL]at h
  split at h
  ·rename_i ag
   cases h;rw[eI ag];exact .head _
  ·exact .tail _ (Rw h)
def JB(l:Bf):fe:=fun f xs h n=>match xs with
 |[y]=>match EL f l with
  |some (t,m,bytes)=>match h0 (cX h) m y with
   |some es=>match(Nat.ble es.length 16777216&&Nat.ble (es.length*bytes) 16777216)&&kU (n+1) (cX ((n,.row false t m es)::h))with
    |true=>some (.aq n,(n,.row false t m es)::h,n+1)
    |false=>none
   |none=>none
  |none=>none
 |_=>none
theorem ZF{P:Program}{G:aR}{l:Bf}(av: ∀f t m bytes,(f,t,m,bytes)∈l→uw P G f t m bytes):hA P G (JB l):=by
 intro f xs h n r h' bL hc
 unfold JB at hc
 split at hc
 ·rename_i y
  split at hc
  ·rename_i t m bytes EM
   split at hc
   ·rename_i es he
    split at hc
    ·rename_i h2
     simp only[Bool.and_eq_true]at h2;cases hc
     have ab:=Nat.le_of_ble_eq_true h2.1.1
     have ae:=Nat.le_of_ble_eq_true h2.1.2
     refine lO.Jy (av _ _ _ _ (Rw EM) he ⟨by simp only[maxLen];omega,by omega⟩) ?_ h2.2 (Nat.le_succ n)
     simp[iq]
    ·cases hc
   ·cases hc
  ·cases hc
 ·cases hc
def x6:et→Nat→et
 |[],_=>[]
 |(k,x)::r,id=>match Nat.beq k id with
  |true=>x6 r id
  |false=>(k,x)::x6 r id
theorem JC: ∀(h:et) (id:Nat),cX (x6 h id)=gS (cX h) id
 |[],_=>rfl
 |(k,x)::r,id=>by
  simp only[cX,gS,x6]
  cases ag:Nat.beq k id with
  |true=>simp[eI ag,JC r id]
  |false=>simp[ug ag,cX,JC r id]
def JD(pa nB t5:Nat):fe:=fun f xs h n=>match Nat.beq f pa,xs with
 |true,[.ptr id 0]=>match nt h id with
  |some (.box t [_,.aq rid])=>match nt h rid with
   |some (.row false bh m es)=>match AK es,(Nat.beq t nB&&Nat.beq bh t5)&&(Nat.beq m 1&&kU n (cX (x6 h rid)))with
    |some l,true=>some (.ad (.v (.string (bytesOf l))),x6 h rid,n)
    |_,_=>none
   |_=>none
  |some (.box t [_,.ad (.v (.slice none 0 0))])=>match Nat.beq t nB&&kU n (cX h)with
   |true=>some (.ad (.v (.string ⟨#[]⟩)),h,n)
   |false=>none
  |_=>none
 |_,_=>none
theorem ZG{P:Program}{G:aR}{pa nB t5:Nat}(wb:x7 P G pa nB t5):hA P G (JD pa nB t5):=by
 intro f xs h n r h' bL hc
 unfold JD at hc
 split at hc
 ·rename_i id hf
  have hf:=eI hf
  subst hf
  split at hc
  ·rename_i t x0 rid ai
   split at hc
   ·rename_i bh m es JE
    split at hc
    ·rename_i l av h2
     simp only[Bool.and_eq_true]at h2;cases hc
     have aB:=eI h2.1.1
     have bU:=eI h2.1.2
     have b7:=eI h2.2.1
     subst aB bU b7
     have he:=IK av
     subst he;refine lO.Jy ?_ rfl h2.2.2 (Nat.le_refl n)
     rw[JC];exact wb.1 (by rw[sC,ai];rfl) (by rw[sC,JE];rfl)
    ·cases hc
   ·cases hc
  ·rename_i t x0 ai
   split at hc
   ·rename_i h2
    simp only[Bool.and_eq_true]at h2;cases hc
    have aB:=eI h2.1
    subst aB;exact lO.Jy (wb.2 (by rw[sC,ai];rfl)) rfl h2.2 (Nat.le_refl n)
   ·cases hc
  ·cases hc
 ·cases hc
structure fw where
 f:FuncId
 xs:List aC
 h:et
 n:Nat
 r:aC
 h':et
 bL:Nat
def fw.ok(P:Program)(G:aR)(e:fw):Prop:=lO P G e.f e.xs (cX e.h) e.n e.r (cX e.h') e.bL
def lj:List fw→fe
 |[],_,_,_,_=>none
 |e::l,f,xs,h,n=>match Nat.beq e.f f&&(Nat.beq e.n n&&(sJ e.xs xs&&xX e.h h))with
  |true=>some (e.r,e.h',e.bL)
  |false=>lj l f xs h n
theorem mj{P:Program}{G:aR}: ∀{l:List fw},(∀e∈l,e.ok P G)→hA P G (lj l)
 |[],_,_,_,_,_,_,_,_,hc=>by cases hc
 |e::l,av,f,xs,h,n,r,h',bL,hc=>by
  simp only[lj]at hc
  split at hc
  ·rename_i ag
   simp only[Bool.and_eq_true]at ag;cases hc
   have:=av e (.head _)
   unfold fw.ok at this;rw[eI ag.1,eI ag.2.1,vZ ag.2.2.1,Jo ag.2.2.2]at this;exact this
  ·exact mj (fun e he=>av e (.tail _ he)) f xs h n r h' bL hc
theorem fw.of{P:Program}{G:aR}{k:fe}(an:hA P G k){e:fw}(N:Nat)(h:Ru P G k N e.f e.xs e.h e.n=some (e.r,e.h',e.bL)):e.ok P G:=ZC an N _ _ _ _ _ _ _ h
end Go.aK
