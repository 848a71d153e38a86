/- TD, part V: loops that count: how they are made, their parts. Conditions: none. -/
import Derived.Test.YtmkpmgfieagphaaGreatDoorHTDu
import Derived.Test.YtmkpmgfieagphaaGreatDoorHTDa
namespace Go.aN
open Go
def aC.ends:aC→List (b5 × ar)
 | .cQ x S=>[(x,S)]
 | .lt _ _ t=>t.ends
 | .eL _ t=>t.ends
 | .it _ a b=>a.ends++b.ends
 | .dH _ a _ k=>a.ends++k.ends
 | .eA _ _ _ _ _ a k=>a.ends++k.ends
 | .e3 _ _ _ a k=>a.ends++k.ends
 | .bad _=>[]
def cy(S:ar):fP→List hJ
 |[]=>[]
 |(i,r,p)::l=>⟨i,r,p.dr S,p⟩::cy S l
def yw(kx j:Nat):List cc→Bool
 |[]=>false
 | .d2 i (.jy .add .i64 .i64) x y::r=>match Nat.beq i j&&(eN x (.aV (.int .i64) kx)&&eN y (.cs (.int .i64 1)))with
  |true=>true
  |false=>yw kx j r
 |_::r=>yw kx j r
def F6(kx b6:Nat)(aU:ar):Bool:=
 match aU.at b6 with
 | .aV (.int .i64) j=>yw kx j aU.g
 |_=>false
def mP(J:gw)(n:Nat):gw:=⟨J.l,J.h,n,J.ps⟩
def vP(n:Nat):List (Nat × ab)→Bool
 |[]=>true
 |(_,x)::r=>ab.r5 n x&&vP n r
def F7(J:gw)(a1 kx b6:Nat)(aU:ar):Bool:=jE (mP J (Nat.max aU.n J.n)) a1 aU&&F6 kx b6 aU
def tE(J cp:gw)(a1 kx b6 cur:Nat):List (b5 × ar)→Bool
 |[]=>true
 |(.ct,aU)::r=>F7 J a1 kx b6 aU&&tE J cp a1 kx b6 cur r
 |(.ext m,aU)::r=>(match Nat.beq m cur with
  |true=>jE cp a1 aU
  |false=>true)&&tE J cp a1 kx b6 cur r
 |_::r=>tE J cp a1 kx b6 cur r
def F8(dW:ar):fP→Bool
 |[]=>true
 |(i,r,p)::l=>eN (p.dr dW) (.aV r i)&&F8 dW l
def aC.yx(cur:Nat):aC→Option ar
 | .lt _ _ t=>t.yx cur
 | .cQ (.ext m) S=>match Nat.beq m cur with
  |true=>some S
  |false=>none
 |_=>none
structure pO where
 J:gw
 cp:gw
 b6:Nat
 y:ab
def pO.kx(I:pO)(S:ar):Nat:=S.k+I.J.ps.length
def pO.H(I:pO)(S:ar):ar:=ar.put ⟨fr I.J.l,I.J.h,I.J.n,I.kx S+1,.rg (I.kx S) I.y::S.g⟩ (some I.b6) (.aV (.int .i64) (I.kx S))
def pO.E(I:pO)(S:ar):ar:=ar.put ⟨fr I.J.l,I.J.h,I.J.n,I.kx S,S.g⟩ (some I.b6) I.y
def F9(S:ar)(x:ab):Nat→Bool
 |0=>false
 |n+1=>eN (S.at n) x||F9 S x n
def lenOf(j:Nat):List cc→Option (bR × ab)
 |[]=>none
 | .d1 i (.iX c) x::r=>match Nat.beq i j with
  |true=>some (c,x)
  |false=>lenOf j r
 |_::r=>lenOf j r
def Ba(c:bR)(x:ab):Bool:=
 match x.rt with
 |some (.li d)=>decide (d=c)
 |_=>false
def BX(N:Nat)(S:ar)(y:ab):List fi:=
 match y with
 | .cs (.int .i64 n)=>match decide (0≤n∧n<9223372036854775808)with
  |true=>[]
  |false=>[.nth 9223372036854775808 y]
 | .aV (.int .i64) j=>match lenOf j S.g with
  |some (c,x)=>match F9 S x N&&Ba c x with
   |true=>[]
   |false=>[.nth 9223372036854775808 y]
  |none=>[.nth 9223372036854775808 y]
 |y=>[.nth 9223372036854775808 y]
def isInt(y:ab):Bool:=
 match y.rt with
 |some (.int .i64)=>true
 |_=>false
def VD(N B cur:Nat)(S:ar)(I:pO)(t1 t2:aC):Bool:=
 (iw S.k I.J.ps&&(r4 (I.kx S) I.J.l&&eM (I.kx S) I.J.h))&&((eN (S.at I.b6) (.cs (.int .i64 0))&&(isInt I.y&&I.y.lt S.k))&&
 ((jE (mP I.J (Nat.max S.n I.J.n)) S.k S&&(vP I.J.n I.J.l&&ou I.J.n I.J.h))&&((Nat.blt I.b6 N&&Nat.ble B I.J.n)&&
 (tE I.J ⟨I.cp.l,I.cp.h,I.cp.n,I.J.ps⟩ S.k (I.kx S) I.b6 cur t1.ends&&((r4 (I.kx S) I.cp.l&&eM (I.kx S) I.cp.h)&&(match t2.yx cur with
  |some dW=>jE ⟨I.cp.l,I.cp.h,I.cp.n,I.J.ps⟩ S.k dW&&F8 dW I.J.ps
  |none=>false))))))
def VE(N B cur:Nat)(S:ar)(I:pO)(t1 t2:aC):aC:=
 match VD N B cur S I t1 t2 with
 |true=>emit S.k [] (BX N S I.y) (.eA (t1.lvl+1) cur (.rR (.int .i64) I.y) (I.kx S) (cy S I.J.ps) (t1.rel (fO (t1.lvl+1))) (.cQ (.ext cur) ⟨fr I.cp.l,I.cp.h,I.cp.n,I.kx S,S.g⟩))
 |false=>.bad (yv t1.nA 60)
def yy(N B:Nat)(f:ar→aC)(cur:Nat)(S:ar)(I:pO):aC:=VE N B cur S I (f (I.H S)) (f (I.E S))
section
variable {P:Program} {G:bc} {N B:Nat} {M:List aS}
theorem ow: ∀{t:aC} {x:b5} {e az:Env} {S:ar},run M t e=some (x,S,az)→(x,S)∈t.ends
 | .cQ x S0,_,e,az,S,h=>by
  simp only[run,aC.fold]at h;cases h;simp[aC.ends]
 | .lt _ _ t,_,_,_,_,h=>ow (t:=t) h
 | .eL _ t,_,_,_,_,h=>ow (t:=t) h
 | .it c a b,_,e,az,S,h=>by
  simp only[run,aC.fold]at h;simp only[aC.ends,List.mem_append]
  cases hc:c.aA e .bool with
  |true=>rw[hc]at h;exact .inl (ow (t:=a) h)
  |false=>rw[hc]at h;exact .inr (ow (t:=b) h)
 | .dH n a ps k,y,e,az,S,h=>by
  simp only[aC.ends,List.mem_append]
  cases ag:run M a e with
  |none=>unfold run at h;rw[th ag]at h;cases h
  |some l=>
   obtain⟨x,aU,aB⟩:=l
   cases hx:x.bZ n with
   |true=>
    unfold run at h;rw[qB ag hx]at h;exact .inr (ow (t:=k) h)
   |false=>
    unfold run at h;rw[nt ag hx]at h;cases h;exact .inl (ow (t:=a) ag)
 | .eA m xid dw b6 ca a k,y,e,az,S,h=>by
  rw[Fz]at h;simp only[aC.ends,List.mem_append]
  cases aq:bm (fun i (v:b3 ca)=>de M m xid ca a (bu (bd.put e b6 ⟨.int .i64,(i:Int)⟩) ca v) v) 0 (cu (dw.den M e)).toNat (ch _ (dL e ca))with
  |inl r=>
   rw[aq]at h
   have h:r=some (y,S,az):=h
   subst h;obtain⟨i,v,ad⟩:=NH aq;exact .inl (ow (t:=a) (Fy ad))
  |inr v=>rw[aq]at h;exact .inr (ow (t:=k) h)
 | .e3 m xid ca a k,y,e,az,S,h=>by
  rw[FA]at h;simp only[aC.ends,List.mem_append]
  cases aq:cJ (fun(v:b3 ca)=>de M m xid ca a (bu e ca v) v) dk (ch _ (dL e ca))with
  |inl r=>
   rw[aq]at h
   have h:r=some (y,S,az):=h
   subst h;obtain⟨v,ad⟩:=NI aq;exact .inl (ow (t:=a) (Fy ad))
  |inr v=>rw[aq]at h;exact .inr (ow (t:=k) h)
 | .bad _,_,_,_,_,h=>by cases h
theorem VF(S:ar)(e:Env): ∀ca:List hJ,dE (rU ca) (ch (rU ca) (fE S e ca))=fE S e ca
 |[]=>rfl
 |[a]=>by simp only[rU,fE,ch,dE,cH]
 |a::b::l=>by
  have:=VF S e (b::l)
  simp only[rU,fE]at this;simp only[rU,fE,ch,dE,cH,this]
theorem OB{S:ar}{e:Env}: ∀{ps:fP},dL e (cy S ps)=fE S e (cy S ps)
 |[]=>rfl
 |(_,_,_)::l=>by simp only[cy,dL,fE,OB (ps:=l)]
theorem BY{S0 aU:ar}{e aB:Env}{ps:fP}:bu e (cy S0 ps) (ch _ (fE aU aB (cy S0 ps)))=fU e (fun r p=>⟨r,(p.dr aU).get aB r⟩) ps:=by
 unfold bu
 rw[VF]
 induction ps generalizing e with
 |nil=>rfl
 |cons q l aZ=>
  obtain⟨i,r,p⟩:=q;simp only[cy,fE,rV,fU];exact aZ
theorem VG{i:Nat}: ∀{ca:List hJ} {e:Env} {ds:List aF},(∀a∈ca,a.i≠i)→Env.at (rV e ca ds) i=Env.at e i
 |[],_,[],_=>rfl
 |[],_,_::_,_=>rfl
 |_::_,_,[],_=>rfl
 |a::l,e,d::ds,h=>by
  simp only[rV];rw[VG (ca:=l) fun b ad=>h b (by simp[ad]),Env.ir,if_neg (h a (by simp))]
theorem VH{S:ar}: ∀{ps:fP} {k:Nat},iw k ps=true→∀a∈cy S ps,k≤a.i∧a.i<k+ps.length
 |(j,r,p)::l,k,h,a,aY=>by
  simp only[iw,Bool.and_eq_true]at h
  have af:=Nat.eq_of_beq_eq_true h.1
  simp only[cy]at aY
  rcases List.mem_cons.1 aY with rfl|aY
  ·simp only[List.length_cons];omega
  ·have:=VH (k:=k+1) h.2.2 a aY
   simp only[List.length_cons];omega
 |[],_,_,a,aY=>by cases aY
theorem yz{S:ar}{e:Env}{ps:fP}{k i:Nat}{v:b3 (cy S ps)}(h:iw k ps=true)(hi:i<k∨k+ps.length≤i):Env.at (bu e (cy S ps) v) i=Env.at e i:=
 VG fun a aY=>by have:=VH h a aY;omega
theorem VI{S:ar}: ∀{ps:fP} {k:Nat} {e:Env} {v:b3 (cy S ps)},iw k ps=true→∀{i:Nat} {r:aW} {p:eF},iZ ps i=some (r,p)→(Env.at (bu e (cy S ps) v) i).r=r
 |[],_,_,_,_,_,_,_,ak=>by cases ak
 |[(j,eY,fZ)],k,e,v,h,i,r,p,ak=>by
  simp only[iZ]at ak
  split at ak
  ·rename_i ad
   cases ak;rw[←Nat.eq_of_beq_eq_true ad];simp only[bu,cy,rU,dE,rV];rw[Env.ir,if_pos rfl]
  ·cases ak
 |(j,eY,fZ)::q::l,k,e,v,h,i,r,p,ak=>by
  simp only[iw,Bool.and_eq_true]at h
  have af:=Nat.eq_of_beq_eq_true h.1
  obtain⟨bK,eO,pN⟩:=q
  have ai:bu e (cy S ((j,eY,fZ)::(bK,eO,pN)::l)) v=bu (bd.put e j ⟨eY,v.1⟩) (cy S ((bK,eO,pN)::l)) v.2:=rfl
  have ae:iw (k+1) ((bK,eO,pN)::l)=true:=by
   simp only[iw,Bool.and_eq_true];exact h.2.2
  simp only[iZ]at ak
  split at ak
  ·rename_i ad
   cases ak
   have:=Nat.eq_of_beq_eq_true ad
   rw[ai];refine(congrArg aF.r (yz (S:=S) (e:=bd.put e j ⟨eY,v.1⟩) (ps:=(bK,eO,pN)::l) (k:=k+1) (i:=i) (v:=v.2) ae (.inl (by omega)))).trans ?_
   rw[Env.ir,if_pos this]
  ·rw[ai]
   exact VI (S:=S) (e:=bd.put e j ⟨eY,v.1⟩) (ps:=(bK,eO,pN)::l) (k:=k+1) (v:=v.2) ae ak
theorem VJ{f:aW→eF→aF}{i:Nat}: ∀{ps:fP} {e az:Env},Env.at e i=Env.at az i→Env.at (fU e f ps) i=Env.at (fU az f ps) i
 |[],_,_,h=>h
 |(j,r,p)::l,e,az,h=>by
  simp only[fU];refine VJ (ps:=l) ?_
  rw[Env.ir,Env.ir,h]
theorem ziX{c:Code}{R A:Type}{n:Nat}{b:Nat→A→Step R A}{a0:A}{hd:Nat→A→aQ}{Q:Exit→aQ→Prop}{dx:aQ}{I:Nat→A→Prop}
    (aJ:cw dx (hd 0 a0))(hi:I 0 a0)
    (ag: ∀k a,k<n→I k a→bm b 0 n a0=bm b k (n-k) a→b7 P G c (fun e st=>match e with
      | .normal=>∃bg,b k a= .bh bg∧I (k+1) bg∧cw st (hd (k+1) bg)
      |e=>Q e st) (hd k a))
    (he: ∀a,I n a→bm b 0 n a0= .inr a→b7 P G c (fun e st=>match e with
      | .normal=>False
      |e=>Q e st) (hd n a)):b7 P G (.loop c) Q dx:=by
  refine b7.loop (ι:=Nat × A) (fun x=>hd x.1 x.2) (fun x=>x.1≤n∧bm b 0 n a0=bm b x.1 (n-x.1) x.2∧I x.1 x.2) (fun x=>n-x.1) (0,a0) aJ ⟨Nat.zero_le _,rfl,hi⟩ ?_
  rintro⟨k,a⟩ ⟨aj,fY,b1⟩
  simp only at aj fY b1⊢
  by_cases pa:k<n
  · refine b7.mono (ag k a pa b1 fY) fun e st ai=>?_
    cases e with
    |normal=>
      obtain⟨bg,aa,au,ae⟩:=ai;exact⟨(k+1,bg),⟨pa,zgo fY pa aa,au⟩,by show n-(k+1)<n-k;omega,ae⟩
    |_=>exact ai
  · have:k=n:=by omega
    subst this;refine b7.mono (he a b1 (zgr fY (Nat.le_refl _))) fun e st ai=>?_
    cases e with
    |normal=>exact ai.elim
    |_=>exact ai
theorem cw.low{aP:List aD}{h:Heap}{m n b:Nat}(aa:k9 n aP=true)(ae:la n h=true)(au:b≤n):cw ⟨aP,h,m,b⟩ ⟨aP,h,n,b⟩:=by
 intro E G a w ⟨β,ro,ag⟩
 refine⟨β,ro,ag.defers,ag.size,fun i x hx=>?_,⟨fun id o ah=>?_,ag.heap.inj,ag.heap.fo,ag.heap.lt⟩,ag.ik,?_,ag.base⟩
 ·exact(ag.slot i x hx).lower (rD aa hx)
 ·have ao:=ag.heap.dh id o ah
  obtain⟨_,AL⟩:=rE ae ah
  cases ao with
  |box t cs b arr aB bl cx eR=>exact .box t cs b arr aB bl cx fun j x af=>(eR j x af).lower (rD (AL t cs rfl) af)
  |row t n es xs aB bl cx=>exact .row t n es xs aB bl cx
  |gf t n es aB=>exact .gf t n es aB
  |bU bW b o aB bl cx=>exact .bU bW b o aB bl cx
 ·have t:=ag.trans
  exact⟨t.os,t.tape,t.output,t.size,t.frame,t.jo,t.j9,t.hp,t.dT,fun id o ah=>(rE ae ah).1,Nat.le_trans ag.base au⟩
theorem OC{n:Nat}{e:Env}{l:bd ab}(h: ∀i x,l.get i=some x→ab.r5 n x=true): ∀(k i:Nat),k9 n (kk G e l i k)=true
 |0,_=>rfl
 |k+1,i=>by
  simp only[kk,k9,OC h k (i+1),Bool.and_true]
  cases ah:l.get i with
  |none=>rfl
  |some x=>exact FV (h i x ah)
theorem OD{n:Nat}: ∀{l:List (Nat × ab)},vP n l=true→∀{i:Nat} {x:ab},(i,x)∈l→ab.r5 n x=true
 |(_,_)::r,h,i,x,hm=>by
  simp only[vP,Bool.and_eq_true]at h
  rcases List.mem_cons.1 hm with q|q
  ·cases q;exact h.1
  ·exact OD h.2 q
theorem VK{J:gw}{a1 kx b6 j:Nat}{S0 aU:ar}{e aB:Env}{k:Nat}{g g':List cc}(ak:iw a1 J.ps=true)(r8:kx=a1+J.ps.length)(aq:r4 kx J.l=true)(a6:eM kx J.h=true)
 (mq: ∀c∈aU.g,c.ok aB)(h:jE (mP J (Nat.max aU.n J.n)) a1 aU=true)(iq:vP J.n J.l=true)(pf:ou J.n J.h=true)(fz:B≤J.n)(vQ:b6<N)(bY:b2 a1 e aB)(ax:(aU.at b6).den G aB= .av (.v (.int .i64 (j:Int)))):
 cw (aU.den G N B aB) ((ar.put ⟨fr J.l,J.h,J.n,k,g⟩ (some b6) (.aV (.int .i64) kx)).den G N B (bu (bd.put e kx ⟨.int .i64,(j:Int)⟩) (cy S0 J.ps) (ch _ (fE aU aB (cy S0 J.ps))))):=by
 have aa:=NK (G:=G) (N:=N) (B:=B) (J:=mP J (Nat.max aU.n J.n)) ak mq h (g:=g') bY
 have ae:=aa.put (i:=b6) (x:=.v (.int .i64 (j:Int))) (by rw[vq,if_pos vQ,ax])
 refine ae.le.trans ?_
 rw[BY,ff]
 have ziY:Env.at (fU (bd.put e kx ⟨.int .i64,(j:Int)⟩) (fun r p=>⟨r,(p.dr aU).get aB r⟩) J.ps) kx=⟨.int .i64,(j:Int)⟩:=by
  rw[←BY (S0:=S0),yz ak (.inr (by omega)),Env.ir,if_pos rfl]
 have VL:(ab.aV (.int .i64) kx).den G (fU (bd.put e kx ⟨.int .i64,(j:Int)⟩) (fun r p=>⟨r,(p.dr aU).get aB r⟩) J.ps)= .av (.v (.int .i64 (j:Int))):=by
  simp only[ab.den,ziY,cH,fL,kg]
 rw[VL]
 have c4:b2 kx (fU e (fun r p=>⟨r,(p.dr aU).get aB r⟩) J.ps) (fU (bd.put e kx ⟨.int .i64,(j:Int)⟩) (fun r p=>⟨r,(p.dr aU).get aB r⟩) J.ps):=fun i hi=>
  VJ (by rw[Env.ir,if_neg (by omega)])
 have qM:(⟨fr J.l,J.h,J.n,kx,[]⟩:ar).cB:=⟨fun i x hx=>tw aq (pF hx),a6,rfl⟩
 have aj:=lr (G:=G) (N:=N) (B:=B) (S:=⟨fr J.l,J.h,J.n,kx,[]⟩) c4 qM
 have au:(ar.mk (fr J.l) J.h J.n k g).den G N B (fU (bd.put e kx ⟨.int .i64,(j:Int)⟩) (fun r p=>⟨r,(p.dr aU).get aB r⟩) J.ps)=(ar.mk (fr J.l) J.h J.n kx []).den G N B (fU e (fun r p=>⟨r,(p.dr aU).get aB r⟩) J.ps):=aj
 rw[au]
 refine cw.low (m:=Nat.max aU.n J.n) ?_ ?_ fz
 ·have:=OC (G:=G) (e:=fU (bd.put e kx ⟨.int .i64,(j:Int)⟩) (fun r p=>⟨r,(p.dr aU).get aB r⟩) J.ps) (n:=J.n) (l:=(fr J.l).put b6 (.aV (.int .i64) kx)) (fun i x hx=>by
   rw[bd.h5]at hx
   split at hx
   ·cases hx;rfl
   ·exact OD iq (pF hx)) N 0
  rw[MF,VL]at this
  have qj:kk G (fU (bd.put e kx ⟨.int .i64,(j:Int)⟩) (fun r p=>⟨r,(p.dr aU).get aB r⟩) J.ps) (fr J.l) 0 N=kk G (fU e (fun r p=>⟨r,(p.dr aU).get aB r⟩) J.ps) (fr J.l) 0 N:=congrArg aQ.c0 aj
  rw[qj]at this;exact this
 ·exact yl pf
end
end Go.aN
namespace Go.aN
open Go
section
variable {P:Program} {G:bc} {N B:Nat} {M:List aS}
theorem VM{S:ar}{x:ab}: ∀{n:Nat},F9 S x n=true→∃i,i<n∧S.at i=x
 |n+1,h=>by
  simp only[F9,Bool.or_eq_true]at h
  rcases h with h|h
  ·exact⟨n,Nat.lt_succ_self n,e4 h⟩
  ·obtain⟨i,aa,ae⟩:=VM h
   exact⟨i,by omega,ae⟩
theorem BZ{j:Nat}{c:bR}{x:ab}{e:Env}: ∀{l:List cc},lenOf j l=some (c,x)→(∀c∈l,c.ok e)→Env.at e j=⟨.int .i64,(List.length (x.aA e (.li c)):Int)⟩
 | .d1 i f y::r,h,hc=>by
  have ag: ∀{c x},lenOf j r=some (c,x)→Env.at e j=⟨.int .i64,(List.length (x.aA e (.li c)):Int)⟩:=fun h=>BZ h fun c hm=>hc c (by simp[hm])
  have aJ:=hc (.d1 i f y) (by simp)
  cases f with
  |iX d=>
   simp only[lenOf]at h
   split at h
   ·rename_i ad
    cases h;rw[←Nat.eq_of_beq_eq_true ad];exact aJ
   ·exact ag h
  |_=>exact ag h
 | .d2 _ _ _ _::r,h,hc=>BZ (l:=r) h fun c hm=>hc c (by simp[hm])
 | .rg _ _::r,h,hc=>BZ (l:=r) h fun c hm=>hc c (by simp[hm])
 | .eb _ _::r,h,hc=>BZ (l:=r) h fun c hm=>hc c (by simp[hm])
theorem ziZ{S:ar}{y:ab}{e:Env}{VN:Entry}{a:Act}{w:World}(hf:S.cC e)(h: ∀n∈BX N S y,n.ok M e)(ag:Rel VN G (S.den G N B e) a w):0≤cu (y.dyn e)∧cu (y.dyn e)<9223372036854775808:=by
 have key:(fi.nth 9223372036854775808 y).ok M e→0≤cu (y.dyn e)∧cu (y.dyn e)<9223372036854775808:=fun h=>h
 unfold BX at h
 split at h
 ·rename_i n
  split at h
  ·rename_i hd
   exact of_decide_eq_true hd
  ·exact key (h _ (by simp))
 ·rename_i j
  split at h
  ·rename_i c x aq
   split at h
   ·rename_i ad
    simp only[Bool.and_eq_true]at ad;obtain⟨i,hi,hx⟩:=VM ad.1
    have aa:=BZ aq hf
    have zi0:x.rt=some (.li c):=by
     have:=ad.2
     unfold Ba at this
     split at this
     ·rename_i d hd
      rw[hd,of_decide_eq_true this]
     ·cases this
    have ae:=ga (G:=G) (e:=e) zi0
    have vR:aL G (S.den G N B e) (.tmp i)= .av (.li c (x.aA e (.li c))):=by
     simp only[aL,List.getD_eq_getElem?_getD,vq,if_pos hi,hx,ae]
     rfl
    have:=zgN ag vR
    have hd:cu ((ab.aV (.int .i64) j).dyn e)=(List.length (x.aA e (.li c)):Int):=by
     simp only[ab.dyn,aa,cH,cu]
    rw[hd];omega
   ·exact key (h _ (by simp))
  ·exact key (h _ (by simp))
 ·exact key (h _ (by simp))
theorem B0{kx j:Nat}{e:Env}: ∀{l:List cc},yw kx j l=true→(∀c∈l,c.ok e)→Env.at e j=⟨.int .i64,IntKind.i64.wrap (((Env.at e kx).aG (.int .i64):Int)+1)⟩
 | .d2 i f x y::r,h,hc=>by
  have ag:yw kx j r=true→Env.at e j=⟨.int .i64,IntKind.i64.wrap (((Env.at e kx).aG (.int .i64):Int)+1)⟩:=fun h=>B0 h fun c hm=>hc c (by simp[hm])
  have aJ:=hc (.d2 i f x y) (by simp)
  unfold yw at h
  split at h
  ·cases h
  ·rename_i heq
   cases heq
   split at h
   ·rename_i ad
    simp only[Bool.and_eq_true]at ad;rw[←Nat.eq_of_beq_eq_true ad.1]
    have aJ:Env.at e i=_:=aJ
    rw[aJ,e4 ad.2.1,e4 ad.2.2];simp only[cI.den,ab.aA,ab.fw,ab.dyn,cH,bn]
   ·exact ag h
  ·rename_i heq
   cases heq;exact ag h
 | .d1 _ _ _::r,h,hc=>B0 (l:=r) h fun c hm=>hc c (by simp[hm])
 | .rg _ _::r,h,hc=>B0 (l:=r) h fun c hm=>hc c (by simp[hm])
 | .eb _ _::r,h,hc=>B0 (l:=r) h fun c hm=>hc c (by simp[hm])
theorem zi1{kx b6:Nat}{aU:ar}{e:Env}{i:Nat}(h:F6 kx b6 aU=true)(hf:aU.cC e)(aj:Env.at e kx=⟨.int .i64,(i:Int)⟩)(hi:(i:Int)<9223372036854775807):(aU.at b6).den G e= .av (.v (.int .i64 ((i+1:Nat):Int))):=by
 unfold F6 at h
 split at h
 ·rename_i j hx
  have:=B0 h hf
  rw[hx];simp only[ab.den,this,cH,aj,fL,kg];rw[zf9 (by omega)]
 ·cases h
theorem VO{cur:Nat}: ∀{t:aC} {e:Env} {S:ar},t.yx cur=some S→t.safe M e∧∃az,run M t e=some (.ext cur,S,az)
 | .lt _ _ t,e,S,h=>VO (t:=t) h
 | .cQ x S0,e,S,h=>by
  refine⟨trivial,?_⟩
  unfold aC.yx at h
  split at h
  ·rename_i heq;cases heq
  ·rename_i m dq heq
   cases heq
   split at h
   ·rename_i ad
    cases h;rw[←Nat.eq_of_beq_eq_true ad];exact⟨e,rfl⟩
   ·cases h
  ·cases h
 | .eL _ _,_,_,h=>by cases h
 | .it _ _ _,_,_,h=>by cases h
 | .dH _ _ _ _,_,_,h=>by cases h
 | .eA _ _ _ _ _ _ _,_,_,h=>by cases h
 | .e3 _ _ _ _ _,_,_,h=>by cases h
 | .bad _,_,_,h=>by cases h
theorem VP{dW:ar}: ∀{ps:fP},F8 dW ps=true→∀{i:Nat} {r:aW} {p:eF},iZ ps i=some (r,p)→p.dr dW= .aV r i
 |(j,eY,fZ)::l,h,i,r,p,ak=>by
  simp only[F8,Bool.and_eq_true]at h;simp only[iZ]at ak
  split at ak
  ·rename_i ad
   cases ak;rw[e4 h.1,Nat.eq_of_beq_eq_true ad]
  ·exact VP h.2 ak
theorem VQ{J cp:gw}{a1 kx b6 cur:Nat}: ∀{l:List (b5 × ar)},tE J cp a1 kx b6 cur l=true→∀{x:b5} {aU:ar},(x,aU)∈l→(x= .ct→F7 J a1 kx b6 aU=true)∧(x= .ext cur→jE cp a1 aU=true)
 |(y,dW)::r,h,x,aU,hm=>by
  have a6:tE J cp a1 kx b6 cur r=true∧(y= .ct→F7 J a1 kx b6 dW=true)∧(y= .ext cur→jE cp a1 dW=true):=by
   cases y with
   |ct=>
    simp only[tE,Bool.and_eq_true]at h;exact⟨h.2,fun _=>h.1,fun e=>(by cases e)⟩
   |ext m=>
    simp only[tE,Bool.and_eq_true]at h;refine⟨h.2,fun e=>(by cases e),fun e=>?_⟩
    cases e
    have aa:=h.1
    rw[Nat.beq_refl]at aa;exact aa
   |ret=>exact⟨h,fun e=>(by cases e),fun e=>(by cases e)⟩
   |lp m=>exact⟨h,fun e=>(by cases e),fun e=>(by cases e)⟩
  rcases List.mem_cons.1 hm with q|q
  ·cases q;exact a6.2
  ·exact VQ a6.1 q
theorem b7.rel{c:Code}{Q:Exit→aQ→Prop}{s:aQ}(h:(∃E a w,Rel E G s a w)→b7 P G c Q s):b7 P G c Q s:=fun E a w ag=>h ⟨E,a,w,ag⟩ E a w ag
theorem zi2{ps:fP}: ∀{k i:Nat},iw k ps=true→k≤i→i<k+ps.length→∃r p,iZ ps i=some (r,p):=by
 induction ps with
 |nil=>intro k i _ aa ae;simp at ae;omega
 |cons q l aZ=>
  obtain⟨j,r,p⟩:=q;intro k i h aa ae;simp only[iw,Bool.and_eq_true]at h
  have af:=Nat.eq_of_beq_eq_true h.1
  simp only[iZ]
  split
  ·exact⟨r,p,rfl⟩
  ·rename_i ad
   refine aZ h.2.2 ?_ (by simp only[List.length_cons]at ae;omega)
   have:j≠i:=fun e=>by rw[e,Nat.beq_refl]at ad;cases ad
   omega
theorem VR{i:Nat}: ∀{ca:List hJ} {e az:Env} {ds:List aF},Env.at e i=Env.at az i→Env.at (rV e ca ds) i=Env.at (rV az ca ds) i
 |[],_,_,[],h=>h
 |[],_,_,_::_,h=>h
 |_::_,_,_,[],h=>h
 |a::l,e,az,d::ds,h=>by
  simp only[rV];refine VR (ca:=l) ?_
  rw[Env.ir,Env.ir,h]
theorem OE{c:Code}{f:ar→aC}(hf:jg P G N B M c f){cur:Nat}{S:ar}{I:pO}{e:Env}(ad:S.cB)(fb:S.cC e)(ai:(yy N B f cur S I).safe M e):b7 P G (.loop c) (jF G N B M (yy N B f cur S I) e S.k) (S.den G N B e):=by
 unfold yy VE at ai⊢
 split at ai
 rotate_left
 ·exact ai.elim
 rename_i tF
 generalize B1:f (I.H S)=t1 at ai tF⊢
 generalize VS:f (I.E S)=t2 at tF
 simp only[VD,Bool.and_eq_true]at tF
 obtain⟨⟨aM,dg,cn⟩,⟨gr,iQ,kG⟩,⟨jN,w8,w9⟩,⟨Ar,qf⟩,sQ,⟨D1,D2⟩,xa⟩:=tF
 have Ar:=fa Ar
 have qf:=Nat.le_of_ble_eq_true qf
 obtain⟨gW,gz⟩:=mN ai
 have gz:(aC.eA (t1.lvl+1) cur (.rR (.int .i64) I.y) (I.kx S) (cy S I.J.ps) (t1.rel (fO (t1.lvl+1))) (.cQ (.ext cur) ⟨fr I.cp.l,I.cp.h,I.cp.n,I.kx S,S.g⟩)).safe M e:=gz
 refine b7.rel fun⟨VN,ac,w,dG⟩=>?_
 obtain⟨x2,z2⟩:=ziZ (M:=M) (e:=e) fb gW dG
 have OF:I.y.rt=some (.int .i64):=by
  unfold isInt at iQ
  split at iQ
  ·assumption
  ·cases iQ
 generalize fQ:aC.eA (t1.lvl+1) cur (.rR (.int .i64) I.y) (I.kx S) (cy S I.J.ps) (t1.rel (fO (t1.lvl+1))) (.cQ (.ext cur) ⟨fr I.cp.l,I.cp.h,I.cp.n,I.kx S,S.g⟩)=qO at gz
 have zi3:run M (emit S.k [] (BX N S I.y) qO) e=run M qO e:=lY
 refine b7.mono (Q':=jF G N B M (emit S.k [] (BX N S I.y) qO) e S.k) ?_ fun ex st h=>h
 refine b7.mono (Q:=jF G N B M qO e S.k) ?_ fun ex st h=>h.sub zi3 (b2.refl _ _) (Nat.le_refl _)
 have r8:I.kx S=S.k+I.J.ps.length:=rfl
 have yA:I.H S=ar.put ⟨fr I.J.l,I.J.h,I.J.n,I.kx S+1,.rg (I.kx S) I.y::S.g⟩ (some I.b6) (.aV (.int .i64) (I.kx S)):=rfl
 have Ga:I.E S=ar.put ⟨fr I.J.l,I.J.h,I.J.n,I.kx S,S.g⟩ (some I.b6) I.y:=rfl
 generalize hW:I.kx S=kx at*
 have qM:cu ((bT.rR (.int .i64) I.y).den M e)=cu (I.y.dyn e):=by
  rw[lW OF];rfl
 generalize sP:cu (I.y.dyn e)=Z at*
 have OG:t1.lvl<t1.lvl+1:=Nat.lt_succ_self _
 have mi:=Mz OG
 subst fQ
 obtain⟨⟨Inv,OH,Gb⟩,aj⟩:=gz
 rw[qM]at Gb
 have cA: ∀L,bm (fun i (v:b3 (cy S I.J.ps))=>de M (t1.lvl+1) cur (cy S I.J.ps) (t1.rel (fO (t1.lvl+1))) (bu (bd.put e kx ⟨.int .i64,(i:Int)⟩) (cy S I.J.ps) v) v) 0 Z.toNat (ch _ (dL e (cy S I.J.ps)))=L→
  run M (aC.eA (t1.lvl+1) cur (.rR (.int .i64) I.y) kx (cy S I.J.ps) (t1.rel (fO (t1.lvl+1))) (.cQ (.ext cur) ⟨fr I.cp.l,I.cp.h,I.cp.n,kx,S.g⟩)) e=Sum.elim (fun r=>r) (fun v=>some (.ext cur,⟨fr I.cp.l,I.cp.h,I.cp.n,kx,S.g⟩,bu e (cy S I.J.ps) v)) L:=fun L fY=>by
  rw[Fz,qM,fY];rfl
 generalize zi4:aC.eA (t1.lvl+1) cur (.rR (.int .i64) I.y) kx (cy S I.J.ps) (t1.rel (fO (t1.lvl+1))) (.cQ (.ext cur) ⟨fr I.cp.l,I.cp.h,I.cp.n,kx,S.g⟩)=qO at cA

 have yB: ∀(i:Nat) (v:b3 (cy S I.J.ps)),b2 S.k e (bu (bd.put e kx ⟨.int .i64,(i:Int)⟩) (cy S I.J.ps) v):=fun i v j af=>by
  rw[yz aM (.inl af),Env.ir,if_neg (by omega)]
 have OI: ∀(i:Nat) (v:b3 (cy S I.J.ps)),Env.at (bu (bd.put e kx ⟨.int .i64,(i:Int)⟩) (cy S I.J.ps) v) kx=⟨.int .i64,(i:Int)⟩:=fun i v=>by
  rw[yz aM (.inr (by omega)),Env.ir,if_pos rfl]
 have zi5: ∀(i:Nat) (v:b3 (cy S I.J.ps)),b2 kx (bu (bd.put e kx ⟨.int .i64,(i:Int)⟩) (cy S I.J.ps) v) (bu e (cy S I.J.ps) v):=fun i v j af=>by
  refine VR ?_
  rw[Env.ir,if_neg (by omega)]
 have tG: ∀(v:b3 (cy S I.J.ps)),b2 S.k e (bu e (cy S I.J.ps) v):=fun v j af=>yz aM (.inl af)
 have zi6:(I.H S).k=kx+1:=by rw[yA,jj]
 have zi7:(I.E S).k=kx:=by rw[Ga,jj]
 have VT:I.y.lt kx=true:=gI (by omega) kG
 have OJ:(I.H S).cB:=by
  rw[yA];refine jh ⟨fun i x hx=>gI (Nat.le_succ kx) (tw dg (pF hx)),tk (Nat.le_succ kx) cn,?_⟩ (jX (Nat.lt_succ_self kx))
  show(cc.lt (kx+1) (.rg kx I.y)&&fq (kx+1) S.g)=true;simp only[cc.lt,gI (Nat.le_succ kx) VT,jX (Nat.lt_succ_self kx),om (show S.k≤kx+1 by omega) ad.g,Bool.and_self]
 have zi8:(I.E S).cB:=by
  rw[Ga];exact jh ⟨fun i x hx=>tw dg (pF hx),cn,om (show S.k≤kx by omega) ad.g⟩ VT
 have VU: ∀az,b2 S.k e az→cu (I.y.dyn az)=Z:=fun az h=>by rw[rP h kG,sP]
 have OK: ∀(i:Nat) (v:b3 (cy S I.J.ps)),i<Z.toNat→(I.H S).cC (bu (bd.put e kx ⟨.int .i64,(i:Int)⟩) (cy S I.J.ps) v):=fun i v hi=>by
  rw[yA];refine ji fun d hd=>?_
  rcases List.mem_cons.1 hd with rfl|hd
  ·show 0≤cu (Env.at _ kx)∧cu (Env.at _ kx)<cu (I.y.dyn _)
   rw[OI,VU _ (yB i v)];show 0≤(i:Int)∧(i:Int)<Z;omega
  ·exact iu (yB i v) ad.g fb d hd
 have zi9: ∀(i:Nat) (v:b3 (cy S I.J.ps)),(I.E S).cC (bu (bd.put e kx ⟨.int .i64,(i:Int)⟩) (cy S I.J.ps) v):=fun i v=>by
  rw[Ga];exact ji (iu (yB i v) ad.g fb)
 have Gc: ∀dq:ar,dq=⟨fr I.cp.l,I.cp.h,I.cp.n,kx,S.g⟩→dq.cB:=fun dq h=>by
  subst h;exact⟨fun i x hx=>tw D1 (pF hx),D2,om (show S.k≤kx by omega) ad.g⟩

 have l0: ∀(v:b3 (cy S I.J.ps)) (st:aQ),run M qO e=some (.ext cur,⟨fr I.cp.l,I.cp.h,I.cp.n,kx,S.g⟩,bu e (cy S I.J.ps) v)→cw st ((ar.mk (fr I.cp.l) I.cp.h I.cp.n kx S.g).den G N B (bu e (cy S I.J.ps) v))→jF G N B M qO e S.k (.exit cur) st:=fun v st aa ae=>
  ⟨.ext cur,_,_,aa,rfl,ae,Gc _ rfl,iu (tG v) ad.g fb,tG v,(show S.k≤kx by omega)⟩
 refine ziX (n:=Z.toNat) (b:=fun i (v:b3 (cy S I.J.ps))=>de M (t1.lvl+1) cur (cy S I.J.ps) (t1.rel (fO (t1.lvl+1))) (bu (bd.put e kx ⟨.int .i64,(i:Int)⟩) (cy S I.J.ps) v) v) (a0:=ch _ (dL e (cy S I.J.ps)))
  (hd:=fun i v=>(I.H S).den G N B (bu (bd.put e kx ⟨.int .i64,(i:Int)⟩) (cy S I.J.ps) v)) (I:=Inv) ?_ OH (fun k v pa b1 fY=>?_) (fun v b1 fY=>?_)
 ·rw[OB,yA]
  exact VK (g':=S.g) aM r8 dg cn fb jN w8 w9 qf Ar (b2.refl _ _) (by rw[e4 gr];rfl)
 ·obtain⟨cR,c7⟩:=Gb k v pa b1
  have yC:=hf (I.H S) (bu (bd.put e kx ⟨.int .i64,(k:Int)⟩) (cy S I.J.ps) v) OJ (OK k v pa) (by rw[B1];exact(k5 mi).1 cR)
  refine b7.mono yC fun ex st ⟨x,aU,aB,aa,ae,au,aR,bN,cL,eH⟩=>?_
  rw[B1]at aa;rw[zi6]at cL eH;obtain⟨OL,OM⟩:=VQ sQ (ow aa)
  have pv:run M (t1.rel (fO (t1.lvl+1))) (bu (bd.put e kx ⟨.int .i64,(k:Int)⟩) (cy S I.J.ps) v)=some (fO (t1.lvl+1) x,aU,aB):=by rw[w4 mi,aa];rfl
  have l1:de M (t1.lvl+1) cur (cy S I.J.ps) (t1.rel (fO (t1.lvl+1))) (bu (bd.put e kx ⟨.int .i64,(k:Int)⟩) (cy S I.J.ps) v) v=ep (t1.lvl+1) cur (cy S I.J.ps) (fun x S e=>some (x,S,e)) (fO (t1.lvl+1) x) aU aB:=by
   unfold de;rw[pv]
  have vS:b2 S.k e aB:=b2.trans (yB k v) cL (by omega)
  have out: ∀ex,BL x ex→fO (t1.lvl+1) x=x→x.bZ (t1.lvl+1)=false→x.c9 cur=false→jF G N B M qO e S.k ex st:=fun ex ae hm af hx=>by
   rw[hm,kl af hx]at l1
   have:=cA _ (zgp fY pa l1)
   exact⟨x,aU,aB,this,ae,au,aR,bN,vS,by omega⟩
  cases x with
  |lp m=>cases ex<;>exact ae.elim
  |ret=>cases ex<;>first|exact ae.elim|exact out _ ae rfl rfl rfl
  |ct=>
   cases ex with
   |normal=>
    have hx:=OL rfl
    simp only[F7,Bool.and_eq_true]at hx;rw[og (x:=fO (t1.lvl+1) .ct) (show b5.bZ (t1.lvl+1) (.lp (t1.lvl+1))=true from Nat.beq_refl _)]at l1
    refine⟨_,l1,c7 _ (by rw[iY,l1];rfl),au.trans ?_⟩
    simp only[yA];refine VK (g':=S.g) aM r8 dg cn bN hx.1 w8 w9 qf Ar vS (zi1 hx.2 bN ?_ (by omega))
    rw[cL kx (Nat.lt_succ_self kx),OI]
   |_=>exact ae.elim
  |ext m=>
   cases ex with
   |exit vT=>
    have ae:m=vT:=ae
    subst ae
    cases hm:Nat.beq m cur with
    |false=>exact out _ rfl rfl rfl hm
    |true=>
     have:=Nat.eq_of_beq_eq_true hm
     subst this;rw[oh (x:=fO (t1.lvl+1) (.ext m)) (show b5.bZ (t1.lvl+1) (.ext m)=false from rfl) (show b5.c9 m (.ext m)=true from hm)]at l1
     have mQ:=cA _ (zgq fY pa l1)
     refine l0 _ st mQ (au.trans ?_)
     rw[BY];exact FH (J:=⟨I.cp.l,I.cp.h,I.cp.n,I.J.ps⟩) aM bN (OM rfl) (g:=S.g) vS
   |_=>exact ae.elim
 ·cases ON:t2.yx cur with
  |none=>rw[ON]at xa;cases xa
  |some dW=>
   rw[ON]at xa;simp only[Bool.and_eq_true]at xa;obtain⟨r3,pN⟩:=xa;obtain⟨s1,bl,s2⟩:=VO (M:=M) (e:=bu (bd.put e kx ⟨.int .i64,(Z.toNat:Int)⟩) (cy S I.J.ps) v) ON
   have yC:=hf (I.E S) (bu (bd.put e kx ⟨.int .i64,(Z.toNat:Int)⟩) (cy S I.J.ps) v) zi8 (zi9 _ v) (by rw[VS];exact s1)
   have m4:(I.E S).den G N B (bu (bd.put e kx ⟨.int .i64,(Z.toNat:Int)⟩) (cy S I.J.ps) v)=(I.H S).den G N B (bu (bd.put e kx ⟨.int .i64,(Z.toNat:Int)⟩) (cy S I.J.ps) v):=by
    rw[Ga,yA,ff,ff]
    have aa:I.y.den G (bu (bd.put e kx ⟨.int .i64,(Z.toNat:Int)⟩) (cy S I.J.ps) v)= .av (.v (.int .i64 Z)):=by
     rw[jB OF,←lW OF,VU _ (yB _ v)]
    have ae:(ab.aV (.int .i64) kx).den G (bu (bd.put e kx ⟨.int .i64,(Z.toNat:Int)⟩) (cy S I.J.ps) v)= .av (.v (.int .i64 Z)):=by
     simp only[ab.den,OI,cH,fL,kg];rw[Int.toNat_of_nonneg x2]
    rw[aa,ae];rfl
   rw[m4]at yC;refine b7.mono yC fun ex st ⟨x,aU,aB,aa,ae,au,aR,bN,cL,eH⟩=>?_
   rw[VS,s2]at aa;cases aa;rw[zi7]at cL
   cases ex with
   |exit m=>
    have ae:cur=m:=ae
    subst ae;refine l0 v st (cA _ fY) (au.trans ?_)
    have hle:=FH (G:=G) (N:=N) (B:=B) (J:=⟨I.cp.l,I.cp.h,I.cp.n,I.J.ps⟩) aM bN r3 (g:=S.g) (b2.trans (yB _ v) cL (by omega):b2 S.k e bl)
    refine hle.trans ?_
    have c4:b2 kx (fU e (fun r p=>⟨r,(p.dr dW).get bl r⟩) I.J.ps) (bu e (cy S I.J.ps) v):=fun i hi=>by
     rcases Nat.lt_or_ge i S.k with bM|h1
     ·rw[BE aM i bM,tG v i bM]
     ·obtain⟨r,p,ak⟩:=zi2 aM h1 (by omega)
      rw[NJ aM ak,VP pN ak]
      have o5:=(UU aM ak).2.2
      have ah:(ab.aV r i).get bl r=(Env.at bl i).aG r:=by
       cases r<;>first|(simp only[ab.get,ab.aA,ab.fw,ab.dyn,cH];done)|cases o5
      rw[ah,cL i hi,←zi5 Z.toNat v i hi]
      have vU:=VI (S:=S) (e:=e) (v:=v) aM ak
      generalize Env.at (bu e (cy S I.J.ps) v) i=d at vU⊢;obtain⟨eY,iP⟩:=d;simp only at vU;subst vU;rw[cH]
    have Oj:=Gc ⟨fr I.cp.l,I.cp.h,I.cp.n,kx,S.g⟩ rfl
    have Re:=lr (G:=G) (N:=N) (B:=B) (S:=⟨fr I.cp.l,I.cp.h,I.cp.n,kx,S.g⟩) c4 Oj
    rw[Re];exact cw.refl _
   |_=>exact ae.elim
end
end Go.aN
namespace Go.aN
open Go
def tH(J cp:gw)(a1 cur:Nat):List (b5 × ar)→Bool
 |[]=>true
 |(.ct,aU)::r=>jE (mP J (Nat.max aU.n J.n)) a1 aU&&tH J cp a1 cur r
 |(.ext m,aU)::r=>(match Nat.beq m cur with
  |true=>jE cp a1 aU
  |false=>true)&&tH J cp a1 cur r
 |_::r=>tH J cp a1 cur r
def VV(B cur:Nat)(S:ar)(J cp:gw)(t1:aC):Bool:=
 (iw S.k J.ps&&(r4 (S.k+J.ps.length) J.l&&eM (S.k+J.ps.length) J.h))&&((jE (mP J (Nat.max S.n J.n)) S.k S&&(vP J.n J.l&&ou J.n J.h))&&(Nat.ble B J.n&&(tH J ⟨cp.l,cp.h,cp.n,J.ps⟩ S.k cur t1.ends&&(r4 (S.k+J.ps.length) cp.l&&eM (S.k+J.ps.length) cp.h))))
def VW(B cur:Nat)(S:ar)(J cp:gw)(t1:aC):aC:=
 match VV B cur S J cp t1 with
 |true=>.e3 (t1.lvl+1) cur (cy S J.ps) (t1.rel (fO (t1.lvl+1))) (.cQ (.ext cur) ⟨fr cp.l,cp.h,cp.n,S.k+J.ps.length,S.g⟩)
 |false=>.bad (yv t1.nA 61)
def Gd(B:Nat)(f:ar→aC)(cur:Nat)(S:ar)(J cp:gw):aC:=VW B cur S J cp (f (J.S S.k S.g))
def B2(cur:Nat):List (b5 × ar)→List ar × List ar
 |[]=>([],[])
 |(.ct,S)::r=>match B2 cur r with
  |(a,b)=>(S::a,b)
 |(.ext m,S)::r=>match B2 cur r with
  |(a,b)=>match Nat.beq m cur with
   |true=>(a,S::b)
   |false=>(a,b)
 |_::r=>B2 cur r
def Ge(S:ar):Nat→Nat→List (Nat × ab)
 |0,_=>[]
 |n+1,i=>match S.at i with
  | .top=>Ge S n (i+1)
  |x=>(i,x)::Ge S n (i+1)
def zja(N a1 cur:Nat)(S:ar)(t:aC):gw:=
 match B2 cur t.ends with
 |(a,b)=>mP (BF N a1 S (a++b)) S.n
def VX:fP→fP→Bool
 |[],[]=>true
 |(i,r,p)::l,(j,q,u)::m=>(Nat.beq i j&&hV r q)&&(ot p u&&VX l m)
 |_,_=>false
def B3{α:Type}:List α→Nat
 |[]=>0
 |_::r=>Nat.succ (B3 r)
def zjb(J K:gw):Bool:=VX J.ps K.ps&&(Nat.beq (B3 J.l) (B3 K.l)&&Nat.beq (B3 J.h) (B3 K.h))
def OO(N:Nat)(f:ar→aC)(cur:Nat)(S:ar):Nat→gw→aC→gw × aC
 |0,J,t=>(J,t)
 |n+1,J,t=>match zja N S.k cur S t with
  |K=>match zjb J K with
   |true=>(K,t)
   |false=>OO N f cur S n K (f (K.S S.k S.g))
def OP(j:Nat):List (Nat × bT)→Option bT
 |[]=>none
 |(i,x)::r=>match Nat.beq i j with
  |true=>some x
  |false=>OP j r
inductive OQ where
 |dr (y:ab)
 |ex (x:bT)
 |none
def zjc(a1:Nat)(ds:List (Nat × bT))(y:ab):OQ:=
 match y.lt a1 with
 |true=>.dr y
 |false=>match y with
  | .aV (.int .i64) j=>match OP j ds with
   |some (.f1 .oe x)=>match x.lt a1 with
    |true=>.ex (.f1 .oe x)
    |false=>.none
   |some (.f1 (.iX c) x)=>match x.lt a1 with
    |true=>.ex (.f1 (.iX c) x)
    |false=>.none
   |_=>.none
  |_=>.none
def VY(a1 cur i:Nat):aC→List (Nat × bT)→OQ
 | .lt j x t,ds=>VY a1 cur i t ((j,x)::ds)
 | .it (.aV .bool g) _ b,ds=>match OP g ds with
  |some (.f2 (.po .lss .i64) (.aV (.int .i64) AN) y)=>match Nat.beq AN i with
   |true=>match b.yx cur with
    |some _=>zjc a1 ds y
    |none=>.none
   |false=>.none
  |_=>.none
 |_,_=>.none
def VZ(i s:Nat):List ar→Bool
 |[]=>true
 |S::r=>F6 i s S&&VZ i s r
def zjd(x:ab):Bool:=eN x (.cs (.int .i64 0))
def Gf(S:ar)(cur:Nat)(t:aC)(Gg:List ar):fP→Option (Nat × OQ)
 |[]=>none
 |(i,.int .i64,.slot s [])::l=>match zjd (S.at s)&&VZ i s Gg with
  |true=>match VY S.k cur i t []with
   | .none=>Gf S cur t Gg l
   |b=>some (s,b)
  |false=>Gf S cur t Gg l
 |_::l=>Gf S cur t Gg l
def V0(s:Nat):List ar→List ar
 |[]=>[]
 |S::r=>S.put (some s) .top::V0 s r
def OR(N a1:Nat)(S:ar)(s:Nat)(y:ab)(a b:List ar):pO:=
 match mP (BF N a1 (S.put (some s) .top) (V0 s (a++b))) S.n with
 |J=>⟨J,mP J (FJ S.n b),s,y⟩
def Gh(N:Nat)(f:ar→aC):Nat→ar→aC
 |0,_=>.bad 63
 |n+1,S=>iO N S (f S) (Gh N f n)
def zje(y:ab):Option Nat:=
 match y with
 | .cs (.int .i64 (.ofNat n))=>match Nat.ble n 16 with
  |true=>some (n+1)
  |false=>none
 |_=>none
def aC.pP:aC→Bool
 | .cQ _ _=>false
 | .lt _ _ t=>t.pP
 | .eL _ t=>t.pP
 | .it _ a b=>a.pP||b.pP
 | .dH _ a _ k=>a.pP||k.pP
 | .eA _ _ _ _ _ a k=>a.pP||k.pP
 | .e3 _ _ _ a k=>a.pP||k.pP
 | .bad _=>true
def V1(t:aC)(u:Unit→aC):aC:=
 match t.pP with
 |true=>u ()
 |false=>t
def V2(N B:Nat)(f:ar→aC)(cur:Nat)(S:ar):gw × aC→aC
 |(J,t)=>match B2 cur t.ends with
  |(a,b)=>match Gf S cur t a J.ps with
   |some (s,.dr y)=>match zje y with
    |some n=>V1 (yy N B f cur S (OR N S.k S s y a b)) fun _=>Gh N f n S
    |none=>yy N B f cur S (OR N S.k S s y a b)
   |some (s,.ex x)=>match hB S.k [x]with
    |true=>emit S.k [x] [] (yy N B f cur (S.e5 S.k [x]) (OR N (S.k+1) S s (.aV (.int .i64) S.k) a b))
    |false=>.bad 62
   |_=>Gd B f cur S J (mP J (FJ S.n b))
def Gi(x:ab):Bool:=eN x (.cs (.slice none 0 0))
def zjf(n i:Nat)(S:ar):Option (TypeId × bR):=
 match S.at i with
 | .aP id=>match Nat.ble n id,dm S.h id with
  |true,some (.rw t c _)=>some (t,c)
  |_,_=>none
 |_=>none
def V3(n i:Nat):List ar→Option (TypeId × bR)
 |[]=>none
 |S::r=>match zjf n i S with
  |some x=>some x
  |none=>V3 n i r
def Gj(S:ar)(a:List ar):Nat→Nat→List (Nat × TypeId × bR)
 |0,_=>[]
 |k+1,i=>match Gi (S.at i)with
  |true=>match V3 S.n i a with
   |some (t,c)=>(i,t,c)::Gj S a k (i+1)
   |none=>Gj S a k (i+1)
  |false=>Gj S a k (i+1)
def nB(N B:Nat):List (Nat × TypeId × bR)→ar→ar
 |[],S=>S
 |(i,t,c)::r,S=>match Gi (S.at i)&&(Nat.blt i N&&Nat.ble B S.n)with
  |true=>nB N B r ⟨S.l.put i (.aP S.n),(S.n,.rw t c (.cs (.slice none 0 0)))::S.h,S.n+1,S.k,S.g⟩
  |false=>nB N B r S
def r9(N B:Nat)(f:ar→aC)(cur:Nat)(S:ar)(t:aC):aC:=
 V2 N B f cur S (OO N f cur S 6 ⟨Ge S N 0,S.h,S.n,[]⟩ t)
def aC.l2:aC→List ar
 | .cQ _ S=>[S]
 | .lt _ _ t=>t.l2
 | .eL _ t=>t.l2
 | .it _ a b=>a.l2++b.l2
 | .dH _ a _ k=>a.l2++k.l2
 | .eA _ _ _ _ _ a k=>a.l2++k.l2
 | .e3 _ _ _ a k=>a.l2++k.l2
 | .bad _=>[]
def zjg(n id off:Nat)(S:ar):Option (TypeId × bR):=
 match dm S.h id with
 |some (.dv _ l)=>match e6 .top l off with
  | .aP k=>match Nat.ble n k,dm S.h k with
   |true,some (.rw t c _)=>some (t,c)
   |_,_=>none
  |_=>none
 |_=>none
def V4(n id off:Nat):List ar→Option (TypeId × bR)
 |[]=>none
 |S::r=>match zjg n id off S with
  |some x=>some x
  |none=>V4 n id off r
def Gk(S:ar)(a:List ar)(id:Nat):Nat→List ab→List (Nat × Nat × TypeId × bR)
 |_,[]=>[]
 |off,x::r=>match Gi x with
  |true=>match V4 S.n id off a with
   |some (t,c)=>(id,off,t,c)::Gk S a id (off+1) r
   |none=>Gk S a id (off+1) r
  |false=>Gk S a id (off+1) r
def yD(S:ar)(a:List ar):List (Nat × bO)→List (Nat × Nat × TypeId × bR)
 |[]=>[]
 |(id,.dv _ l)::r=>Gk S a id 0 l++yD S a r
 |_::r=>yD S a r
def kp(B:Nat):List (Nat × Nat × TypeId × bR)→ar→ar
 |[],S=>S
 |(id,off,t,c)::r,S=>match dm S.h id with
  |some (.dv bt l)=>match(match l[off]? with|some x=>Gi x|none=>false)&&Nat.ble B S.n with
   |true=>kp B r ⟨S.l,jz ((S.n,.rw t c (.cs (.slice none 0 0)))::S.h) id (.dv bt (l.set off (.aP S.n))),S.n+1,S.k,S.g⟩
   |false=>kp B r S
  |_=>kp B r S
def V5(N B:Nat)(f:ar→aC)(cur:Nat)(S:ar)(t:aC):aC:=
 match Gj S t.l2 N 0 with
 |[]=>match yD S t.l2 S.h with
  |[]=>r9 N B f cur S t
  |q::qs=>r9 N B f cur (kp B (q::qs) S) (f (kp B (q::qs) S))
 |p::r=>r9 N B f cur (kp B (yD S t.l2 S.h) (nB N B (p::r) S)) (f (kp B (yD S t.l2 S.h) (nB N B (p::r) S)))
def OS(N B:Nat)(f:ar→aC)(cur:Nat)(S:ar):aC:=V5 N B f cur S (f S)
section
variable {P:Program} {G:bc} {N B:Nat} {M:List aS}
theorem V6{J cp:gw}{a1 cur:Nat}: ∀{l:List (b5 × ar)},tH J cp a1 cur l=true→∀{x:b5} {aU:ar},(x,aU)∈l→(x= .ct→jE (mP J (Nat.max aU.n J.n)) a1 aU=true)∧(x= .ext cur→jE cp a1 aU=true)
 |(y,dW)::r,h,x,aU,hm=>by
  have a6:tH J cp a1 cur r=true∧(y= .ct→jE (mP J (Nat.max dW.n J.n)) a1 dW=true)∧(y= .ext cur→jE cp a1 dW=true):=by
   cases y with
   |ct=>
    simp only[tH,Bool.and_eq_true]at h;exact⟨h.2,fun _=>h.1,fun e=>(by cases e)⟩
   |ext m=>
    simp only[tH,Bool.and_eq_true]at h;refine⟨h.2,fun e=>(by cases e),fun e=>?_⟩
    cases e
    have aa:=h.1
    rw[Nat.beq_refl]at aa;exact aa
   |ret=>exact⟨h,fun e=>(by cases e),fun e=>(by cases e)⟩
   |lp m=>exact⟨h,fun e=>(by cases e),fun e=>(by cases e)⟩
  rcases List.mem_cons.1 hm with q|q
  ·cases q;exact a6.2
  ·exact V6 a6.1 q
theorem zjh{c:Code}{R A:Type}{n:Nat}{b:A→Step R A}{a0:A}{hd:A→aQ}{Q:Exit→aQ→Prop}{dx:aQ}{I:A→Prop}
    (aJ:cw dx (hd a0))(hi:I a0)(he:ki b n a0)
    (ag: ∀a,I a→(∀r,b a= .ret r→cJ b n a0= .inl r)→(∀v,b a= .cz v→cJ b n a0= .inr v)→b7 P G c (fun e st=>match e with
      | .normal=>∃bg,b a= .bh bg∧I bg∧cw st (hd bg)
      |e=>Q e st) (hd a)):b7 P G (.loop c) Q dx:=by
  refine b7.loop (ι:=Nat × A) (fun x=>hd x.2) (fun x=>(cJ b n a0=cJ b x.1 x.2∧ki b x.1 x.2)∧I x.2) (fun x=>x.1) (n,a0) aJ ⟨⟨rfl,he⟩,hi⟩ ?_
  rintro⟨k,a⟩ ⟨fY,b1⟩
  refine b7.mono (ag a b1 (fun r ad=>zgB fY ad) (fun v ad=>zgC fY ad)) fun e st ai=>?_
  cases e with
  |normal=>
    obtain⟨bg,aa,au,ae⟩:=ai;obtain⟨m,aR,bN⟩:=zgA fY aa;exact⟨(m,bg),⟨bN,au⟩,by show m<k;omega,ae⟩
  |_=>exact ai
theorem V7{J:gw}{a1 kx:Nat}{S0 aU:ar}{e aB:Env}{k:Nat}{g g':List cc}(ak:iw a1 J.ps=true)(mq: ∀c∈aU.g,c.ok aB)(h:jE (mP J (Nat.max aU.n J.n)) a1 aU=true)(iq:vP J.n J.l=true)(pf:ou J.n J.h=true)(fz:B≤J.n)(bY:b2 a1 e aB):
 cw (aU.den G N B aB) ((ar.mk (fr J.l) J.h J.n k g).den G N B (bu e (cy S0 J.ps) (ch _ (fE aU aB (cy S0 J.ps))))):=by
 have aa:=NK (G:=G) (N:=N) (B:=B) (J:=mP J (Nat.max aU.n J.n)) ak mq h (g:=g') bY
 refine aa.le.trans ?_
 rw[BY]
 refine cw.low (m:=Nat.max aU.n J.n) ?_ ?_ fz
 ·exact OC (n:=J.n) (l:=fr J.l) (fun i x hx=>OD iq (pF hx)) N 0
 ·exact yl pf
theorem zji{c:Code}{f:ar→aC}(hf:jg P G N B M c f){cur:Nat}{S:ar}{J cp:gw}{e:Env}(ad:S.cB)(fb:S.cC e)(ai:(Gd B f cur S J cp).safe M e):b7 P G (.loop c) (jF G N B M (Gd B f cur S J cp) e S.k) (S.den G N B e):=by
 unfold Gd VW at ai⊢
 split at ai
 rotate_left
 ·exact ai.elim
 rename_i tF
 generalize B1:f (J.S S.k S.g)=t1 at ai tF⊢
 simp only[VV,Bool.and_eq_true]at tF
 obtain⟨⟨aM,dg,cn⟩,⟨jN,w8,w9⟩,qf,sQ,D1,D2⟩:=tF
 have qf:=Nat.le_of_ble_eq_true qf
 have OG:t1.lvl<t1.lvl+1:=Nat.lt_succ_self _
 have mi:=Mz OG
 obtain⟨⟨Inv,OH,Gb⟩,OT,aj⟩:=ai
 generalize r8:S.k+J.ps.length=kx at*
 have hle:S.k≤kx:=by rw[←r8];exact Nat.le_add_right _ _
 have cA: ∀L,cJ (fun(v:b3 (cy S J.ps))=>de M (t1.lvl+1) cur (cy S J.ps) (t1.rel (fO (t1.lvl+1))) (bu e (cy S J.ps) v) v) dk (ch _ (dL e (cy S J.ps)))=L→
  run M (aC.e3 (t1.lvl+1) cur (cy S J.ps) (t1.rel (fO (t1.lvl+1))) (.cQ (.ext cur) ⟨fr cp.l,cp.h,cp.n,kx,S.g⟩)) e=Sum.elim (fun r=>r) (fun v=>some (.ext cur,⟨fr cp.l,cp.h,cp.n,kx,S.g⟩,bu e (cy S J.ps) v)) L:=fun L fY=>by
  rw[FA,fY];rfl
 have zjj:ki (fun(v:b3 (cy S J.ps))=>de M (t1.lvl+1) cur (cy S J.ps) (t1.rel (fO (t1.lvl+1))) (bu e (cy S J.ps) v) v) dk (ch _ (dL e (cy S J.ps))):=
  (Mx (fun _=>()) (fun v=>iY _ _ _ _ _ v) _ _).1 OT
 generalize zi4:aC.e3 (t1.lvl+1) cur (cy S J.ps) (t1.rel (fO (t1.lvl+1))) (.cQ (.ext cur) ⟨fr cp.l,cp.h,cp.n,kx,S.g⟩)=qO at cA
 have tG: ∀(v:b3 (cy S J.ps)),b2 S.k e (bu e (cy S J.ps) v):=fun v j af=>yz aM (.inl af)
 have OJ:(J.S S.k S.g).cB:=⟨fun i x hx=>by show x.lt (S.k+J.ps.length)=true;rw[r8];exact tw dg (pF hx),by show eM (S.k+J.ps.length) J.h=true;rw[r8];exact cn,by show fq (S.k+J.ps.length) S.g=true;rw[r8];exact om hle ad.g⟩
 have OK: ∀(v:b3 (cy S J.ps)),(J.S S.k S.g).cC (bu e (cy S J.ps) v):=fun v=>iu (tG v) ad.g fb
 have Gc: ∀dq:ar,dq=⟨fr cp.l,cp.h,cp.n,kx,S.g⟩→dq.cB:=fun dq h=>by
  subst h;exact⟨fun i x hx=>tw D1 (pF hx),D2,om hle ad.g⟩
 refine zjh (n:=dk) (b:=fun(v:b3 (cy S J.ps))=>de M (t1.lvl+1) cur (cy S J.ps) (t1.rel (fO (t1.lvl+1))) (bu e (cy S J.ps) v) v) (a0:=ch _ (dL e (cy S J.ps)))
  (hd:=fun v=>(J.S S.k S.g).den G N B (bu e (cy S J.ps) v)) (I:=Inv) ?_ OH zjj (fun v b1 zjk zjl=>?_)
 ·rw[OB]
  exact V7 (kx:=kx) (g':=S.g) aM fb jN w8 w9 qf (b2.refl _ _)
 ·obtain⟨cR,c7⟩:=Gb v b1
  have yC:=hf (J.S S.k S.g) (bu e (cy S J.ps) v) OJ (OK v) (by rw[B1];exact(k5 mi).1 cR)
  refine b7.mono yC fun ex st ⟨x,aU,aB,aa,ae,au,aR,bN,cL,eH⟩=>?_
  rw[B1]at aa
  have zjm:(J.S S.k S.g).k=kx:=r8
  rw[zjm]at cL eH;obtain⟨OL,OM⟩:=V6 sQ (ow aa)
  have pv:run M (t1.rel (fO (t1.lvl+1))) (bu e (cy S J.ps) v)=some (fO (t1.lvl+1) x,aU,aB):=by rw[w4 mi,aa];rfl
  have l1:de M (t1.lvl+1) cur (cy S J.ps) (t1.rel (fO (t1.lvl+1))) (bu e (cy S J.ps) v) v=ep (t1.lvl+1) cur (cy S J.ps) (fun x S e=>some (x,S,e)) (fO (t1.lvl+1) x) aU aB:=by
   unfold de;rw[pv]
  have vS:b2 S.k e aB:=b2.trans (tG v) cL hle
  have out: ∀ex,BL x ex→fO (t1.lvl+1) x=x→x.bZ (t1.lvl+1)=false→x.c9 cur=false→jF G N B M qO e S.k ex st:=fun ex ae hm af hx=>by
   rw[hm,kl af hx]at l1;exact⟨x,aU,aB,cA _ (zjk _ l1),ae,au,aR,bN,vS,Nat.le_trans hle eH⟩
  cases x with
  |lp m=>cases ex<;>exact ae.elim
  |ret=>cases ex<;>first|exact ae.elim|exact out _ ae rfl rfl rfl
  |ct=>
   cases ex with
   |normal=>
    rw[og (x:=fO (t1.lvl+1) .ct) (show b5.bZ (t1.lvl+1) (.lp (t1.lvl+1))=true from Nat.beq_refl _)]at l1
    exact⟨_,l1,c7 _ (by rw[iY,l1];rfl),au.trans (V7 (kx:=kx) (g':=S.g) aM bN (OL rfl) w8 w9 qf vS)⟩
   |_=>exact ae.elim
  |ext m=>
   cases ex with
   |exit vT=>
    have ae:m=vT:=ae
    subst ae
    cases hm:Nat.beq m cur with
    |false=>exact out _ rfl rfl rfl hm
    |true=>
     have:=Nat.eq_of_beq_eq_true hm
     subst this;rw[oh (x:=fO (t1.lvl+1) (.ext m)) (show b5.bZ (t1.lvl+1) (.ext m)=false from rfl) (show b5.c9 m (.ext m)=true from hm)]at l1
     refine⟨.ext m,_,_,cA _ (zjl _ l1),rfl,au.trans ?_,Gc _ rfl,iu (tG _) ad.g fb,tG _,hle⟩
     rw[BY];exact FH (J:=⟨cp.l,cp.h,cp.n,J.ps⟩) aM bN (OM rfl) (g:=S.g) vS
   |_=>exact ae.elim
theorem V8{c:Code}{f:ar→aC}(hf:jg P G N B M c f){Q:Exit→aQ→Prop}: ∀(n:Nat) {S:ar} {e:Env},S.cB→S.cC e→(Gh N f n S).safe M e→(∀ex st,jF G N B M (Gh N f n S) e S.k ex st→Q ex st)→xA P G c Q n (S.den G N B e)
 |0,_,_,_,_,ai,_=>ai.elim
 |n+1,S,e,ad,fb,ai,ez=>by
  obtain⟨t1,t2,t3⟩:=FL (G:=G) (B:=B) ad fb ai;refine xA.rd n (b7.mono (hf S e ad fb t1) fun ex st ak=>?_)
  obtain⟨x,dq,az,aa,ae,au,aR,bN,cL,eH⟩:=ak
  have other:x≠ .ct→Q ex st:=fun b9=>ez ex st ⟨x,dq,az,t2 x dq az aa b9 (Vi ae),ae,au,aR,bN,cL,eH⟩
  cases x with
  |ct=>
   cases ex with
   |normal=>
    obtain⟨dW,bl,s1,s2,pI,pJ,pK,pL,pM⟩:=t3 dq az aa aR bN cL eH
    have:=V8 hf n s2 pI pL (Q:=Q) fun ex st ak=>ez ex st (ak.sub pM pJ pK)
    exact fun E a w ag=>this E a w (s1 E G a w (au E G a w ag))
   |_=>exact ae.elim
  |ret=>cases ex<;>first|exact ae.elim|exact other (by simp)
  |ext n=>cases ex<;>first|exact ae.elim|exact other (by simp)
  |lp n=>cases ex<;>exact ae.elim
theorem OU{c:Code}{Q:Exit→aQ→Prop}{e:Env}: ∀(l:List (Nat × TypeId × bR)) {S:ar},S.cB→S.cC e→(nB N B l S).cB∧(nB N B l S).cC e∧(nB N B l S).k=S.k∧(b7 P G c Q ((nB N B l S).den G N B e)→b7 P G c Q (S.den G N B e))
 |[],_,ad,hf=>⟨ad,hf,rfl,fun h=>h⟩
 |(i,t,d)::r,S,ad,hf=>by
  unfold nB
  split
  ·rename_i hc
   simp only[Bool.and_eq_true]at hc;obtain⟨aM,dg,cn⟩:=hc
   have gD:(⟨S.l.put i (.aP S.n),(S.n,.rw t d (.cs (.slice none 0 0)))::S.h,S.n+1,S.k,S.g⟩:ar).cB:=by
    refine⟨fun j x hx=>?_,?_,ad.g⟩
    ·simp only[bd.h5]at hx
     split at hx
     ·cases hx;rfl
     ·exact ad.l j x hx
    ·show(bO.lt S.k (.rw t d (.cs (.slice none 0 0)))&&eM S.k S.h)=true
     rw[ad.h];rfl
   obtain⟨aa,ae,au,aR⟩:=OU r gD hf;refine⟨aa,ae,au,fun h=>?_⟩
   refine b7.L8 i t (b4 d) ?_ (by rw[vq,if_pos (fa dg),e4 aM];rfl) cn
   have:=aR h
   have hd:(⟨S.l.put i (.aP S.n),(S.n,.rw t d (.cs (.slice none 0 0)))::S.h,S.n+1,S.k,S.g⟩:ar).den G N B e={S.den G N B e with c0:=(S.den G N B e).c0.set i (.aP (S.den G N B e).next),heap:=((S.den G N B e).next,.row false t (b4 d) [])::(S.den G N B e).heap,next:=(S.den G N B e).next+1}:=by
    simp only[ar.den,MF,cF,ab.den,bO.den,ab.aA,ab.fw,cH];rfl
   rw[hd]at this;exact this
  ·exact OU r ad hf
theorem B4{c:Code}{Q:Exit→aQ→Prop}{e:Env}: ∀(l:List (Nat × Nat × TypeId × bR)) {S:ar},S.cB→S.cC e→(kp B l S).cB∧(kp B l S).cC e∧(kp B l S).k=S.k∧(b7 P G c Q ((kp B l S).den G N B e)→b7 P G c Q (S.den G N B e))
 |[],_,ad,hf=>⟨ad,hf,rfl,fun h=>h⟩
 |(id,off,t,d)::r,S,ad,hf=>by
  unfold kp
  split
  ·rename_i bt l ah
   split
   ·rename_i hc
    simp only[Bool.and_eq_true]at hc;obtain⟨aM,cn⟩:=hc
    have aq:=vO ad.h ah
    have gD:(⟨S.l,jz ((S.n,.rw t d (.cs (.slice none 0 0)))::S.h) id (.dv bt (l.set off (.aP S.n))),S.n+1,S.k,S.g⟩:ar).cB:=by
     refine⟨ad.l,FW (o:=.dv bt (l.set off (.aP S.n))) (N9 (x:=.aP S.n) rfl aq) ?_,ad.g⟩
     show(bO.lt S.k (.rw t d (.cs (.slice none 0 0)))&&eM S.k S.h)=true;rw[ad.h];rfl
    obtain⟨aa,ae,au,aR⟩:=B4 r gD hf;refine⟨aa,ae,au,fun h=>?_⟩
    have:=aR h
    have bj:aE (S.den G N B e).heap id=some (.box bt (ab.bX G e l)):=by simp only[ar.den,er,ah,Option.map_some,bO.den]
    have aj:(ab.bX G e l)[off]? =some (.av (.v (.slice none 0 0))):=by
     rw[e9,List.getElem?_map]
     cases hx:l[off]? with
     |none=>rw[hx]at aM;cases aM
     |some x=>
      rw[hx]at aM
      have:=e4 aM
      subst this;rfl
    refine b7.le (cw.zgH (s:=S.den G N B e) id off t (b4 d) bj aj (Nat.le_of_ble_eq_true cn) rfl) ?_
    have hd:(⟨S.l,jz ((S.n,.rw t d (.cs (.slice none 0 0)))::S.h) id (.dv bt (l.set off (.aP S.n))),S.n+1,S.k,S.g⟩:ar).den G N B e={S.den G N B e with heap:=eU (((S.den G N B e).next,.row false t (b4 d) [])::(S.den G N B e).heap) id (.box bt ((ab.bX G e l).set off (.aP (S.den G N B e).next))),next:=(S.den G N B e).next+1}:=by
     simp only[ar.den,tj,cF,bO.den,Oa,ab.den,ab.aA,ab.fw,cH];rfl
    rw[hd]at this;exact this
   ·exact B4 r ad hf
  ·exact B4 r ad hf
theorem OV{c:Code}{f:ar→aC}{cur:Nat}{S:ar}{e:Env}{t:aC}(hf:jg P G N B M c f)(ad:S.cB)(fb:S.cC e)(ai:(r9 N B f cur S t).safe M e):b7 P G (.loop c) (jF G N B M (r9 N B f cur S t) e S.k) (S.den G N B e):=by
 unfold r9 at ai⊢
 generalize OO N f cur S 6 ⟨Ge S N 0,S.h,S.n,[]⟩ t=zjn at ai⊢
 obtain⟨J,t⟩:=zjn
 simp only[V2]at ai⊢
 split at ai
 ·split at ai
  ·unfold V1 at ai⊢
   split at ai
   ·exact b7.rounds _ (V8 hf _ ad fb ai fun _ _ h=>h)
   ·exact OE hf ad fb ai
  ·exact OE hf ad fb ai
 ·rename_i s x _
  split at ai
  ·rename_i hx
   obtain⟨_,gz⟩:=mN ai;obtain⟨cg,a2,a3⟩:=r7 (M:=M) (G:=G) (N:=N) (B:=B) ad fb hx
   have:=OE hf cg a2 gz
   rw[a3]at this;exact b7.mono this fun ex st ak=>ak.sub (by rw[lY]) (jY (Nat.le_refl _)) (Nat.le_add_right _ _)
  ·exact ai.elim
 ·exact zji hf ad fb ai
theorem zjo:Ou P G N B M (OS N B):=by
 intro c f cur hf S e ad fb ai
 unfold OS V5 at ai⊢
 generalize f S=t at ai⊢
 split at ai
 ·split at ai
  ·exact OV hf ad fb ai
  ·rename_i q qs _
   obtain⟨aa,ae,au,aR⟩:=B4 (P:=P) (G:=G) (N:=N) (B:=B) (c:=.loop c) (Q:=jF G N B M (r9 N B f cur (kp B (q::qs) S) (f (kp B (q::qs) S))) e S.k) (e:=e) (q::qs) ad fb;refine aR ?_
   have:=OV hf aa ae ai
   rw[au]at this;exact this
 ·rename_i p r _
  generalize yD S t.l2 S.h=cM at ai⊢;obtain⟨g1,g2,g3,g4⟩:=OU (P:=P) (G:=G) (N:=N) (B:=B) (c:=.loop c) (Q:=jF G N B M (r9 N B f cur (kp B cM (nB N B (p::r) S)) (f (kp B cM (nB N B (p::r) S)))) e S.k) (e:=e) (p::r) ad fb;obtain⟨aa,ae,au,aR⟩:=B4 (P:=P) (G:=G) (N:=N) (B:=B) (c:=.loop c) (Q:=jF G N B M (r9 N B f cur (kp B cM (nB N B (p::r) S)) (f (kp B cM (nB N B (p::r) S)))) e S.k) (e:=e) cM g1 g2;refine g4 (aR ?_)
  have:=OV hf aa ae ai
  rw[au,g3]at this;exact this
end
end Go.aN
namespace Go.aN
open Go
def OW(ops:Array Oper)(m:List Bool)(i:Nat)(D:List Nat)(j:Nat):Bool:=
 !(m.toArray.getD j true)&&(!(Nat.beq j i)&&match ops[j]? with
  |some o=>o.after.any fun e=>Region.binds .any e&&(e.on==i||D.contains e.on)
  |none=>false)
def Gl(ops:Array Oper)(m:List Bool)(i:Nat):List Nat→List Nat→List Nat
 |[],D=>D
 |j::r,D=>match OW ops m i D j with
  |true=>Gl ops m i r (j::D)
  |false=>Gl ops m i r D
def Gm(ops:Array Oper)(wr:List Bool)(m:List Bool)(i:Nat):Bool:=
 match Gl ops m i (List.range ops.size) []with
 |D=>!(wr.getD i false)&&(D.all (OW ops m i D)&&(List.range ops.size).all fun j=>!(wr.getD j false)||(m.toArray.getD j true||D.contains j))
section
variable {P:Program} {ops:Array Oper} {Q:Exit→Act→World→Prop} {S:World→Prop} {wr:Nat→Bool}
theorem zjp{i:Nat}{oi:Oper}{v:Value}(hi:ops[i]? =some oi)(s6:wr i=false)(ll: ∀(j:Nat) (o:Oper) cs b,ops[j]? =some o→o.op≠ .select cs b)
 (ez: ∀c a w,Q (.panic c) (a.put oi.dst v) w→Q (.panic c) a w)(D:Nat→Prop):
 ∀(fuel:Nat) (listed:Array Bool) (a:Act) (w:World),
  (∀j e8,ops[j]? =some e8→j≠i→listed.getD j true=false→(∀e∈e8.after,Region.binds .any e=true→e.on≠i)→oi.apart ops e8=true)→
  (∀j e8,ops[j]? =some e8→wr j=true→listed.getD j true=false→D j)→
  (∀j,D j→listed.getD j true=false∧j≠i∧∃e8,ops[j]? =some e8∧∃e∈e8.after,Region.binds .any e=true∧(e.on=i∨D e.on))→
  i∈Region.ready .any ops listed→YieldsIf P ops S oi v a→S w→
  lj P ops Q S wr fuel (listed.setIfInBounds i true) (a.put oi.dst v) w→lj P ops Q S wr (fuel+1) listed a w:=by
 intro fuel
 induction fuel with
 |zero=>
  intro listed a w _ _ _ ag ay hS H;refine⟨fun h=>(by rw[h]at ag;cases ag),fun j af=>?_⟩
  by_cases gy:j=i
  ·subst gy;exact ay.wpOp hi hS (.inr ⟨s6,hS,H⟩)
  ·have:=ready_mono af gy
   rw[H.1]at this
   cases this
 |succ fuel aZ=>
  intro listed a w s7 A6 mv ag ay hS H;refine⟨fun h=>(by rw[h]at ag;cases ag),fun j af=>?_⟩
  by_cases gy:j=i
  ·subst gy;exact ay.wpOp hi hS (.inr ⟨s6,hS,H⟩)
  ·have aa:=H.2 j (ready_mono af gy)
   obtain⟨qx,e8,iH,eh⟩:=mem_ready.1 af
   have un: ∀k,listed.getD k true=false→∀e∈e8.after,Region.binds .any e=true→e.on≠k:=fun k aj e he ad heq=>by
    have aa:=eh e he ad
    rw[heq]at aa
    rcases Nat.lt_or_ge k listed.size with h'|h'
    ·simp[h']at aj aa;rw[aj]at aa;cases aa
    ·simp[Array.getElem?_eq_none h']at aa
   have vh: ∀e∈e8.after,Region.binds .any e=true→e.on≠i:=un i (mem_ready.1 ag).1
   have V9: ¬D j:=fun hd=>by
    obtain⟨_,_,zmj,Wa,e,he,ad,a6⟩:=mv j hd;rw[iH]at Wa
    cases Wa
    rcases a6 with a6|a6
    ·exact vh e he ad a6
    ·exact un e.on (mv _ a6).1 e he ad rfl
   have vi:wr j=false:=by
    cases hw:wr j with
    |false=>rfl
    |true=>exact absurd (A6 j e8 iH hw qx) V9
   have aa:=wpOp_mono (K':=fun bg w'=>S w'∧lj P ops Q S wr fuel ((listed.setIfInBounds i true).setIfInBounds j true) bg w') (fun bg w' h'=>by
    rcases h' with⟨h',_⟩|⟨_,h'⟩
    ·rw[vi]at h';cases h'
    ·exact h') aa
   have ae:=wpOp_putIf iH (s7 j e8 iH gy qx vh) (fun cs b=>ll i oi cs b hi) (fun cs b=>ll j e8 cs b iH) ez ay aa
   have low: ∀k,(listed.setIfInBounds j true).getD k true=false→listed.getD k true=false:=fun k hU=>by
    by_cases qy:j=k
    ·subst qy;exact qx
    ·rw[getD_set_ne true qy]at hU;exact hU
   have xF: ∀k ok,ops[k]? =some ok→k≠i→(listed.setIfInBounds j true).getD k true=false→
    (∀e∈ok.after,Region.binds .any e=true→e.on≠i)→oi.apart ops ok=true:=fun k ok aj bI hU gh=>s7 k ok aj bI (low k hU) gh
   have zjq: ∀k,D k→(listed.setIfInBounds j true).getD k true=false∧k≠i∧∃ok,ops[k]? =some ok∧∃e∈ok.after,Region.binds .any e=true∧(e.on=i∨D e.on):=fun k aj=>by
    obtain⟨g1,g2⟩:=mv k aj;refine⟨?_,g2⟩
    have qy:j≠k:=fun a6=>V9 (by rw[a6];exact aj)
    rw[getD_set_ne true qy];exact g1
   refine wpOp_mono (fun bg w' au=>.inr ⟨vi,au.2.1,aZ (listed.setIfInBounds j true) bg w' xF (fun k ok aj hw hU=>A6 k ok aj hw (low k hU)) zjq (ready_mono ag (Ne.symm gy)) au.1 au.2.1 ?_⟩) ae
   rw[Array.setIfInBounds_comm _ _ gy];exact au.2.2
theorem zjr{i:Nat}{oi:Oper}{v:Value}(hi:ops[i]? =some oi)(s6:wr i=false)(ll: ∀(j:Nat) (o:Oper) cs b,ops[j]? =some o→o.op≠ .select cs b)
 (ez: ∀c a w,Q (.panic c) (a.put oi.dst v) w→Q (.panic c) a w):
 ∀(fuel:Nat) (listed:Array Bool) (a:Act) (w:World),
  (∀j e8,ops[j]? =some e8→j≠i→listed.getD j true=false→(∀e∈e8.after,Region.binds .any e=true→e.on≠i)→oi.apart ops e8=true)→
  i∈Region.ready .any ops listed→Yields P ops oi v a→S w→
  lj P ops Q S wr fuel (listed.setIfInBounds i true) (a.put oi.dst v) w→lj P ops Q S wr (fuel+1) listed a w:=by
 intro fuel
 induction fuel with
 |zero=>
  intro listed a w _ ag ay hS H;refine⟨fun h=>(by rw[h]at ag;cases ag),fun j af=>?_⟩
  by_cases gy:j=i
  ·subst gy;exact ay.yieldsIf.wpOp hi hS (.inr ⟨s6,hS,H⟩)
  ·have:=ready_mono af gy
   rw[H.1]at this
   cases this
 |succ fuel aZ=>
  intro listed a w s7 ag ay hS H;refine⟨fun h=>(by rw[h]at ag;cases ag),fun j af=>?_⟩
  by_cases gy:j=i
  ·subst gy;exact ay.yieldsIf.wpOp hi hS (.inr ⟨s6,hS,H⟩)
  ·have aa:=H.2 j (ready_mono af gy)
   obtain⟨qx,e8,iH,eh⟩:=mem_ready.1 af
   have vh: ∀e∈e8.after,Region.binds .any e=true→e.on≠i:=fun e he ad heq=>by
    have aa:=eh e he ad
    have aJ:=(mem_ready.1 ag).1
    rw[heq]at aa
    rcases Nat.lt_or_ge i listed.size with h'|h'
    ·simp[h']at aJ aa;rw[aJ]at aa;cases aa
    ·simp[Array.getElem?_eq_none h']at aa
   have ae:=wpOp_put iH (s7 j e8 iH gy qx vh) (fun cs b=>ll i oi cs b hi) (fun cs b=>ll j e8 cs b iH) ez ay aa
   have low: ∀k,(listed.setIfInBounds j true).getD k true=false→listed.getD k true=false:=fun k hU=>by
    by_cases qy:j=k
    ·subst qy;exact qx
    ·rw[getD_set_ne true qy]at hU;exact hU
   have xF: ∀k ok,ops[k]? =some ok→k≠i→(listed.setIfInBounds j true).getD k true=false→
    (∀e∈ok.after,Region.binds .any e=true→e.on≠i)→oi.apart ops ok=true:=fun k ok aj bI hU gh=>s7 k ok aj bI (low k hU) gh
   refine wpOp_mono (fun bg w' ⟨mL,au⟩=>?_) ae
   rcases au with⟨hw,au⟩|⟨hw,Wb,au⟩
   ·refine .inl ⟨hw,wpAny_first hi ll ez fuel _ bg w' xF (ready_mono ag (Ne.symm gy)) mL ?_⟩
    rw[Array.setIfInBounds_comm _ _ gy];exact au
   ·refine .inr ⟨hw,Wb,aZ (listed.setIfInBounds j true) bg w' xF (ready_mono ag (Ne.symm gy)) mL Wb ?_⟩
    rw[Array.setIfInBounds_comm _ _ gy];exact au
end
section
variable {P:Program} {G:bc} {Q:Exit→aQ→Prop} {L:List Oper} {wr:List Bool}
theorem fM.zjs{fuel:Nat}{m:List Bool}{s bF:aQ}(i:Nat){o:Oper}(ao:L[i]? =some o)(ak:jW P G L.toArray o s bF)(k:fM P G L Q wr fuel (m.set i true) bF)(ai:Region.noSelect L.toArray=true)
 (hf:Region.free .any L.toArray m.toArray i=true)(ag:(Region.ready .any L.toArray m.toArray).contains i=true)(hw:Gm L.toArray wr m i=true):fM P G L Q wr (fuel+1) m s:=by
 intro E a w dG
 obtain⟨v,ax,rF⟩:=ak E a w dG
 unfold Gm at hw
 simp only at hw
 generalize mv:Gl L.toArray m i (List.range L.toArray.size) []=D at hw
 simp only[Bool.and_eq_true]at hw
 obtain⟨aa,ae,au⟩:=hw
 refine zjp (i:=i) (oi:=o) (v:=v) (by simpa using ao) (by simpa using aa) (Region.noSelect_spec ai) (fun c a w aK=>?_) (fun j=>D.contains j=true) fuel m.toArray a w (Region.free_spec (by simpa using ao) hf) (fun j e8 iH vi hU=>?_) (fun j af=>?_) (by simpa using ag) ax (gg.refl w) (by simpa using k E _ w rF)
 ·obtain⟨_,⟨h,_⟩,_⟩:=aK
  cases h
 ·have:=List.all_eq_true.1 au j (List.mem_range.2 (Array.getElem?_eq_some_iff.1 iH).1)
  rw[vi,hU]at this;simpa using this
 ·have hm:j∈D:=by simpa using af
  have:=List.all_eq_true.1 ae j hm
  unfold OW at this;simp only[Bool.and_eq_true,Bool.not_eq_true']at this;obtain⟨g1,g2,g3⟩:=this;refine⟨g1,fun a6=>(by rw[a6,Nat.beq_refl]at g2;cases g2),?_⟩
  cases iH:L.toArray[j]? with
  |none=>rw[iH]at g3;cases g3
  |some e8=>
   rw[iH]at g3;obtain⟨e,he,ad⟩:=Array.any_eq_true'.1 g3;simp only[Bool.and_eq_true,Bool.or_eq_true,beq_iff_eq]at ad;exact⟨e8,rfl,e,he,ad⟩
theorem fM.zjt{fuel:Nat}{m:List Bool}{s bF:aQ}(i:Nat){o:Oper}(ao:L[i]? =some o)(ak:hv P G L.toArray o s bF)(k:fM P G L Q wr fuel (m.set i true) bF)(ai:Region.noSelect L.toArray=true)
 (hf:Region.free .any L.toArray m.toArray i=true)(ag:(Region.ready .any L.toArray m.toArray).contains i=true)(hw:wr.getD i false=false):fM P G L Q wr (fuel+1) m s:=by
 intro E a w dG
 obtain⟨v,ax,rF⟩:=ak E a w dG
 refine zjr (i:=i) (oi:=o) (v:=v) (by simpa using ao) hw (Region.noSelect_spec ai) (fun c a w aK=>?_) fuel m.toArray a w (Region.free_spec (by simpa using ao) hf) (by simpa using ag) ax (gg.refl w) (by simpa using k E _ w rF)
 obtain⟨_,⟨h,_⟩,_⟩:=aK
 cases h
theorem fM.any{fuel:Nat}{m:List Bool}{s:aQ}(b9:Region.ready .any L.toArray m.toArray≠[])(h: ∀i∈Region.ready .any L.toArray m.toArray,∃o,L[i]? =some o∧∃A:aQ→Prop,(∀t,A t→fM P G L Q wr fuel (m.set i true) t)∧
      ∀E a w,Rel E G s a w→(Region.wanted o (yielded L.toArray a.tmps)=true∧∀(K:Act→World→Prop) (Q:Exit→Act→World→Prop),(∀t,A t→∀bg w',Rel E G t bg w'→(wr.getD i false=true∨gg w w')→K bg w')→o.wp P a w K Q)∨(wr.getD i false=false∧Region.wanted o (yielded L.toArray a.tmps)=false∧∃t,A t∧Rel E G t (a.put o.dst undef) w)):fM P G L Q wr (fuel+1) m s:=by
  intro E a w ag;refine⟨fun hn=>absurd hn b9,fun j af=>?_⟩
  obtain⟨o,ao,A,k,ai⟩:=h j af
  have eU:m.toArray.setIfInBounds j true=(m.set j true).toArray:=by simp
  have next: ∀t,A t→∀bg w',Rel E G t bg w'→(wr.getD j false=true∨gg w w')→(wr.getD j false=true∧wpAny P .any L.toArray (lift E G (ob Q)) fuel (m.toArray.setIfInBounds j true) bg w')∨(wr.getD j false=false∧gg w w'∧lj P L.toArray (lift E G (ob Q)) (gg w) (fun i=>wr.getD i false) fuel (m.toArray.setIfInBounds j true) bg w'):=fun t aH bg w' ed aj=>by
    rw[eU]
    cases hw:wr.getD j false with
    |true=>exact .inl ⟨rfl,(k t aH).c8 E bg w' ed⟩
    |false=>
      rcases aj with aj|aj
      · rw[hw]at aj;cases aj
      · exact .inr ⟨rfl,aj,EI (fun dC ae=>aj.trans ae) _ _ _ _ (k t aH E bg w' ed)⟩
  unfold wpOp;rw[show L.toArray[j]? =some o from by simpa using ao]
  simp only
  rcases ai E a w ag with⟨fD,au⟩|⟨hw,fD,t,aR,au⟩
  · rw[if_pos fD]
    exact .inl (au _ _ next)
  · rw[if_neg (by rw[fD];decide)]
    exact next t aR _ _ au (.inr (gg.refl w))
end
section
variable {P:Program} {G:bc} {N B:Nat} {M:List aS}
theorem dc.later{E:Entry}{s:aQ}{a:Act}{w cP:World}{β:Nat→Value}{ro:Nat→Prop}(h:dc E G s a w β ro)(aj:gg w cP):dc ⟨cP,ro,s.heap,β,E.n⟩ G s a cP β ro:=by
 have bV:w.heap.size≤cP.heap.size:=by
  rcases Nat.eq_zero_or_pos w.heap.size with aJ|aJ
  ·omega
  ·have aa:=aj (w.heap.size-1) (by omega)
   rcases Nat.lt_or_ge (w.heap.size-1) cP.heap.size with ae|ae
   ·omega
   ·rw[Array.getElem?_eq_none ae,Array.getElem?_eq_getElem (by omega)]at aa
    cases aa
 have hw: ∀b,ro b→cP.heap[b]? =w.heap[b]? :=fun b ad=>aj b (h.heap.lt b ad)
 refine⟨h.defers,h.size,fun i x hx=>(h.slot i x hx).keep hw (fun _ h=>h) (Nat.le_refl _) (fun _ t cs ah=>⟨rfl,t,cs,ah⟩) (fun _ z t _ es ah=>⟨rfl,z,t,es,ah⟩) (fun _ bW ah=>⟨rfl,bW,ah⟩),
  ⟨fun id il ah=>(h.heap.dh id il ah).keep hw (fun _ h=>h) (Nat.le_refl _) bV rfl (fun aq b ad=>aj b ((h.heap.dh id il ah).hO aq ad)) (fun _ t cs ah=>⟨rfl,t,cs,ah⟩) (fun _ z t _ es ah=>⟨rfl,z,t,es,ah⟩) (fun _ bW ah=>⟨rfl,bW,ah⟩),h.heap.inj,h.heap.fo,fun b ad=>Nat.lt_of_lt_of_le (h.heap.lt b ad) bV⟩,
  h.ik.keep hw fun _ h=>h,⟨rfl,rfl,rfl,Nat.le_refl _,fun _ _ _=>rfl,fun b ad=>.inl ad,fun b ad=>ad,fun b ad=>.inl ad,fun id hi o ah=>⟨by rw[ah];simp,rfl⟩,h.trans.new,h.trans.le⟩,h.base⟩
theorem Wc{w:World}{ro:Nat→Prop}{σ:Heap}{β:Nat→Value}{n:Nat}{x:Value}{c:Value}(h:bG w ro σ β n (.av (.v x)) c):c=x:=by
 cases h with
 |av _ _ h=>
  cases h;rfl
theorem jW.rL{ops:Array Oper}{o:Oper}{s:aQ}{x:Value}(h:cY P G o s (.av (.v x)))(ah:dV ops s o=some true):jW P G ops o s (s.put o.dst (.av (.v x))):=by
 intro E a w ⟨β,ro,ag⟩
 have hw:=oa (ops:=ops) ⟨β,ro,ag⟩ ah
 obtain⟨c,_,ae⟩:=h E a w β ro ag
 refine⟨x,.inl ⟨hw,fun cP aj=>?_⟩,β,ro,ag.put _ _ _ (by rw[Wc ae]at ae;exact ae)⟩
 obtain⟨aM,au,aR⟩:=h _ a cP β ro (ag.later aj)
 rw[Wc aR]at au
 exact au
def kq(P:Program)(G:bc)(ops:Array Oper)(o:Oper)(s:aQ)(A:aQ→Prop):Prop:=∀E a w,Rel E G s a w→
 (Region.wanted o (yielded ops a.tmps)=true∧∀(K:Act→World→Prop) (Q:Exit→Act→World→Prop),(∀t,A t→∀bg w',Rel E G t bg w'→gg w w'→K bg w')→o.wp P a w K Q)∨
 (Region.wanted o (yielded ops a.tmps)=false∧∃t,A t∧Rel E G t (a.put o.dst undef) w)
theorem kq.v{ops:Array Oper}{o:Oper}{s:aQ}{v:aD}{A:aQ→Prop}(h:cY P G o s v)(ah:dV ops s o=some true)(c4:A (s.put o.dst v)):kq P G ops o s A:=fun E a w ag=>
 .inl ⟨oa ag ah,fun K Q hK=>h.Sj E a w ag K Q fun bg w' ed aj=>hK _ c4 bg w' ed aj⟩
theorem kq.no{ops:Array Oper}{o:Oper}{s:aQ}{A:aQ→Prop}(ah:dV ops s o=some false)(c4:A (s.put o.dst (.tuple []))):kq P G ops o s A:=fun E a w ag=>
 .inr ⟨oa ag ah,_,c4,ag.Ee o.dst⟩
theorem fM.one{L:List Oper}{Q:Exit→aQ→Prop}{wr:List Bool}{fuel:Nat}{m:List Bool}{s:aQ}{A:aQ→Prop}{i:Nat}{o:Oper}(ao:L[i]? =some o)(h:Region.ready .any L.toArray m.toArray=[i])(hw:wr.getD i false=false)
 (ai:kq P G L.toArray o s A)(k: ∀t,A t→fM P G L Q wr fuel (m.set i true) t):fM P G L Q wr (fuel+1) m s:=by
 intro E a w ag
 refine⟨fun hn=>(by rw[h]at hn;cases hn),fun j af=>?_⟩
 rw[h]at af
 rcases List.mem_cons.1 af with rfl|af
 rotate_left
 ·cases af
 have eU:m.toArray.setIfInBounds j true=(m.set j true).toArray:=by simp
 have next: ∀t,A t→∀bg w',Rel E G t bg w'→gg w w'→wr.getD j false=false∧gg w w'∧lj P L.toArray (lift E G (ob Q)) (gg w) (fun i=>wr.getD i false) fuel (m.toArray.setIfInBounds j true) bg w':=fun t aH bg w' ed aj=>by
  rw[eU];exact⟨hw,aj,EI (fun dC ae=>aj.trans ae) _ _ _ _ (k t aH E bg w' ed)⟩
 unfold wpOp
 rw[show L.toArray[j]? =some o from by simpa using ao]
 simp only
 rcases ai E a w ag with⟨fD,au⟩|⟨fD,t,aR,au⟩
 ·rw[if_pos fD]
  exact .inl (au _ _ fun t aH bg w' ed aj=>.inr (next t aH bg w' ed aj))
 ·rw[if_neg (by rw[fD];decide)]
  exact .inr (next t aR _ _ au (gg.refl w))
def OX(P:Program)(G:bc)(ops:Array Oper)(o:Oper)(s:aQ)(A:aQ→Prop):Prop:=∀E a w,Rel E G s a w→
 Region.wanted o (yielded ops a.tmps)=true∧∀(K:Act→World→Prop) (Q:Exit→Act→World→Prop),(∀t,A t→∀bg w',Rel E G t bg w'→K bg w')→o.wp P a w K Q
theorem fM.zju{L:List Oper}{Q:Exit→aQ→Prop}{wr:List Bool}{fuel:Nat}{m:List Bool}{s:aQ}{A:aQ→Prop}{i:Nat}{o:Oper}(ao:L[i]? =some o)(h:Region.ready .any L.toArray m.toArray=[i])(hw:wr.getD i false=true)
 (ai:OX P G L.toArray o s A)(k: ∀t,A t→fM P G L Q wr fuel (m.set i true) t):fM P G L Q wr (fuel+1) m s:=by
 intro E a w ag
 refine⟨fun hn=>(by rw[h]at hn;cases hn),fun j af=>?_⟩
 rw[h]at af
 rcases List.mem_cons.1 af with rfl|af
 rotate_left
 ·cases af
 have eU:m.toArray.setIfInBounds j true=(m.set j true).toArray:=by simp
 have next: ∀t,A t→∀bg w',Rel E G t bg w'→wr.getD j false=true∧wpAny P .any L.toArray (lift E G (ob Q)) fuel (m.toArray.setIfInBounds j true) bg w':=fun t aH bg w' ed=>by
  rw[eU];exact⟨hw,(k t aH).c8 E bg w' ed⟩
 unfold wpOp
 rw[show L.toArray[j]? =some o from by simpa using ao]
 simp only
 obtain⟨fD,au⟩:=ai E a w ag
 rw[if_pos fD]
 exact .inl (au _ _ fun t aH bg w' ed=>.inl (next t aH bg w' ed))
theorem kq.call{ops:Array Oper}{o:Oper}{s:aQ}{xs:Array Operand}{f:FuncId}{p q:List aD}(vD:vC P G o s f p q xs)(gG:nd P f=true)
 (ah:dV ops s o=some true)(o9:e7 (p++xs.toList.map (aL G s)++q)=true){R:aD→Heap→Prop}(hc:dN P G f (p++xs.toList.map (aL G s)++q) [] 0 R){A:aQ→Prop}(fl: ∀r b0,R r b0→fJ r=true∧A (s.put o.dst r)):kq P G ops o s A:=by
 intro E a w ⟨β,ro,h⟩
 refine .inl ⟨oa ⟨β,ro,h⟩ ah,fun K Q hK=>?_⟩
 obtain⟨c,d,aa,ae,kn,vB,cA⟩:=vD E a w β ro h
 ·unfold Oper.wp
  rw[cA w,Eh gG]
  have hs:=hc w β ro (c++xs.map a.eval++d) (by simp[aa,ae,Nat.add_assoc]) (fun i y ay=>n5 (UJ (x:=.const undef) (f:=.func f) h aa ae kn vB i y ay) (nc o9 ay))
   ⟨by simp[aE],by simp[aE],fun b _ ⟨_,_,ah,_⟩=>by simp[aE]at ah,h.heap.lt⟩ h.ik (by simp[aE])
  refine Calls.mono hs fun e w' aK=>?_
  obtain⟨v,r,b0,dU,ro',cS,rfl,ag,dG,hR,cN⟩:=aK;obtain⟨zjv,c4⟩:=fl r b0 ag
  have ld: ∀b,¬Own ([]:Heap) β b:=fun b ⟨_,_,ah,_⟩=>by simp[aE]at ah
  have lP: ∀b,b<w.heap.size→w'.heap[b]? =w.heap[b]? :=fun b ad=>cN.frame b ad (ld b)
  have c2:=h.grow (w':=w') (ro':=ro') cN.os cN.tape cN.output cN.size lP cN.j9 (fun b ad=>by
   rcases cN.jo b ad with q|q|q
   ·exact .inl q
   ·exact absurd q (ld b)
   ·exact .inr ⟨q,hR.lt b ad⟩)
  exact hK _ c4 _ _ ⟨β,ro',c2.put o.dst r v (n5 dG zjv)⟩ lP
theorem b7.zjw{id:Nat}{L:List Oper}{Q:Exit→aQ→Prop}{wr:List Bool}{s:aQ}(n:Nat)(h:fM P G L Q wr n (List.replicate n false) s)(kW:P.follows .mixedOrders=true)(hn:Nat.beq L.length n=true):b7 P G (.region id L.toArray true) Q s:=b7.zgs n h.c8 kW hn
end
end Go.aN
