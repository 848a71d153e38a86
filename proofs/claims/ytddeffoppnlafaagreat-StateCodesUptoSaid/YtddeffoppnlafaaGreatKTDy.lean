/- TD, part V: loops that count: how they are made, their parts. Conditions: none. -/
import Derived.Test.YtddeffoppnlafaaGreatKTDu
import Derived.Test.YtddeffoppnlafaaGreatKTDa
namespace Go.aK
open Go
def aH.ends:aH→List (cf × ay)
 | .dc x S=>[(x,S)]
 | .lt _ _ t=>t.ends
 | .fF _ t=>t.ends
 | .it _ a b=>a.ends++b.ends
 | .eo _ a _ k=>a.ends++k.ends
 | .e6 _ _ _ _ _ a k=>a.ends++k.ends
 | .fz _ _ _ a k=>a.ends++k.ends
 | .bad _=>[]
def cR(S:ay):gy→List iL
 |[]=>[]
 |(i,r,p)::l=>⟨i,r,p.dO S,p⟩::cR S l
def zW(kx j:Nat):List ck→Bool
 |[]=>false
 | .d2 i (.kF .add .i64 .i64) x y::r=>match Nat.beq i j&&(ej x (.bs (.int .i64) kx)&&ej y (.cs (.int .i64 1)))with
  |true=>true
  |false=>zW kx j r
 |_::r=>zW kx j r
def Hu(kx cg:Nat)(aO:ay):Bool:=
 match aO.at cg with
 | .bs (.int .i64) j=>zW kx j aO.g
 |_=>false
def nX(J:hH)(n:Nat):hH:=⟨J.l,J.h,n,J.ps⟩
def xl(n:Nat):List (Nat × af)→Bool
 |[]=>true
 |(_,x)::r=>af.tw n x&&xl n r
def Hv(J:hH)(aW kx cg:Nat)(aO:ay):Bool:=kK (nX J (Nat.max aO.n J.n)) aW aO&&Hu kx cg aO
def vl(J cF:hH)(aW kx cg cur:Nat):List (cf × ay)→Bool
 |[]=>true
 |(.b8,aO)::r=>Hv J aW kx cg aO&&vl J cF aW kx cg cur r
 |(.ext m,aO)::r=>(match Nat.beq m cur with
  |true=>kK cF aW aO
  |false=>true)&&vl J cF aW kx cg cur r
 |_::r=>vl J cF aW kx cg cur r
def Hw(dr:ay):gy→Bool
 |[]=>true
 |(i,r,p)::l=>ej (p.dO dr) (.bs r i)&&Hw dr l
def aH.zX(cur:Nat):aH→Option ay
 | .lt _ _ t=>t.zX cur
 | .dc (.ext m) S=>match Nat.beq m cur with
  |true=>some S
  |false=>none
 |_=>none
structure q5 where
 J:hH
 cF:hH
 cg:Nat
 y:af
def q5.kx(I:q5)(S:ay):Nat:=S.k+I.J.ps.length
def q5.H(I:q5)(S:ay):ay:=ay.put ⟨fS I.J.l,I.J.h,I.J.n,I.kx S+1,.rg (I.kx S) I.y::S.g⟩ (some I.cg) (.bs (.int .i64) (I.kx S))
def q5.E(I:q5)(S:ay):ay:=ay.put ⟨fS I.J.l,I.J.h,I.J.n,I.kx S,S.g⟩ (some I.cg) I.y
def Hy(S:ay)(x:af):Nat→Bool
 |0=>false
 |n+1=>ej (S.at n) x||Hy S x n
def lenOf(j:Nat):List ck→Option (bX × af)
 |[]=>none
 | .d1 i (.kd c) x::r=>match Nat.beq i j with
  |true=>some (c,x)
  |false=>lenOf j r
 |_::r=>lenOf j r
def Cq(c:bX)(x:af):Bool:=
 match x.rt with
 |some (.li d)=>decide (d=c)
 |_=>false
def Dg(N:Nat)(S:ay)(y:af):List gE:=
 match y with
 | .cs (.int .i64 n)=>match decide (0≤n∧n<9223372036854775808)with
  |true=>[]
  |false=>[.nth 9223372036854775808 y]
 | .bs (.int .i64) j=>match lenOf j S.g with
  |some (c,x)=>match Hy S x N&&Cq c x with
   |true=>[]
   |false=>[.nth 9223372036854775808 y]
  |none=>[.nth 9223372036854775808 y]
 |y=>[.nth 9223372036854775808 y]
def isInt(y:af):Bool:=
 match y.rt with
 |some (.int .i64)=>true
 |_=>false
def VE(N B cur:Nat)(S:ay)(I:q5)(t1 t2:aH):Bool:=
 (jD S.k I.J.ps&&(tv (I.kx S) I.J.l&&fu (I.kx S) I.J.h))&&((ej (S.at I.cg) (.cs (.int .i64 0))&&(isInt I.y&&I.y.lt S.k))&&
 ((kK (nX I.J (Nat.max S.n I.J.n)) S.k S&&(xl I.J.n I.J.l&&pK I.J.n I.J.h))&&((Nat.blt I.cg N&&Nat.ble B I.J.n)&&
 (vl I.J ⟨I.cF.l,I.cF.h,I.cF.n,I.J.ps⟩ S.k (I.kx S) I.cg cur t1.ends&&((tv (I.kx S) I.cF.l&&fu (I.kx S) I.cF.h)&&(match t2.zX cur with
  |some dr=>kK ⟨I.cF.l,I.cF.h,I.cF.n,I.J.ps⟩ S.k dr&&Hw dr I.J.ps
  |none=>false))))))
def VF(N B cur:Nat)(S:ay)(I:q5)(t1 t2:aH):aH:=
 match VE N B cur S I t1 t2 with
 |true=>emit S.k [] (Dg N S I.y) (.e6 (t1.lvl+1) cur (.qK (.int .i64) I.y) (I.kx S) (cR S I.J.ps) (t1.rel (gx (t1.lvl+1))) (.dc (.ext cur) ⟨fS I.cF.l,I.cF.h,I.cF.n,I.kx S,S.g⟩))
 |false=>.bad (zV t1.oU 60)
def zY(N B:Nat)(f:ay→aH)(cur:Nat)(S:ay)(I:q5):aH:=VF N B cur S I (f (I.H S)) (f (I.E S))
section
variable {P:Program} {G:aR} {N B:Nat} {M:List bo}
theorem pN: ∀{t:aH} {x:cf} {e aF:Env} {S:ay},run M t e=some (x,S,aF)→(x,S)∈t.ends
 | .dc x S0,_,e,aF,S,h=>by
  simp only[run,aH.fold]at h;cases h;simp[aH.ends]
 | .lt _ _ t,_,_,_,_,h=>pN (t:=t) h
 | .fF _ t,_,_,_,_,h=>pN (t:=t) h
 | .it c a b,_,e,aF,S,h=>by
  simp only[run,aH.fold]at h;simp only[aH.ends,List.mem_append]
  cases hc:c.aN e .bool with
  |true=>rw[hc]at h;exact .inl (pN (t:=a) h)
  |false=>rw[hc]at h;exact .inr (pN (t:=b) h)
 | .eo n a ps k,y,e,aF,S,h=>by
  simp only[aH.ends,List.mem_append]
  cases ah:run M a e with
  |none=>unfold run at h;rw[u1 ah]at h;cases h
  |some l=>
   obtain⟨x,aO,aD⟩:=l
   cases hx:x.b6 n with
   |true=>
    unfold run at h;rw[rY ah hx]at h;exact .inr (pN (t:=k) h)
   |false=>
    unfold run at h;rw[oL ah hx]at h;cases h;exact .inl (pN (t:=a) ah)
 | .e6 m xid dZ cg ca a k,y,e,aF,S,h=>by
  rw[GY]at h;simp only[aH.ends,List.mem_append]
  cases av:bJ (fun i (v:b9 ca)=>dD M m xid ca a (bw (bd.put e cg ⟨.int .i64,(i:Int)⟩) ca v) v) 0 (cN (dZ.den M e)).toNat (cw _ (eu e ca))with
  |inl r=>
   rw[av]at h
   have h:r=some (y,S,aF):=h
   subst h;obtain⟨i,v,ag⟩:=NA av;exact .inl (pN (t:=a) (GX ag))
  |inr v=>rw[av]at h;exact .inr (pN (t:=k) h)
 | .fz m xid ca a k,y,e,aF,S,h=>by
  rw[GZ]at h;simp only[aH.ends,List.mem_append]
  cases av:dA (fun(v:b9 ca)=>dD M m xid ca a (bw e ca v) v) dt (cw _ (eu e ca))with
  |inl r=>
   rw[av]at h
   have h:r=some (y,S,aF):=h
   subst h;obtain⟨v,ag⟩:=NB av;exact .inl (pN (t:=a) (GX ag))
  |inr v=>rw[av]at h;exact .inr (pN (t:=k) h)
 | .bad _,_,_,_,_,h=>by cases h
theorem VG(S:ay)(e:Env): ∀ca:List iL,eK (ti ca) (cw (ti ca) (gp S e ca))=gp S e ca
 |[]=>rfl
 |[a]=>by simp only[ti,gp,cw,eK,c3]
 |a::b::l=>by
  have:=VG S e (b::l)
  simp only[ti,gp]at this;simp only[ti,gp,cw,eK,c3,this]
theorem Ov{S:ay}{e:Env}: ∀{ps:gy},eu e (cR S ps)=gp S e (cR S ps)
 |[]=>rfl
 |(_,_,_)::l=>by simp only[cR,eu,gp,Ov (ps:=l)]
theorem Dh{S0 aO:ay}{e aD:Env}{ps:gy}:bw e (cR S0 ps) (cw _ (gp aO aD (cR S0 ps)))=gF e (fun r p=>⟨r,(p.dO aO).get aD r⟩) ps:=by
 unfold bw
 rw[VG]
 induction ps generalizing e with
 |nil=>rfl
 |cons q l aY=>
  obtain⟨i,r,p⟩:=q;simp only[cR,gp,tj,gF];exact aY
theorem VH{i:Nat}: ∀{ca:List iL} {e:Env} {ds:List aL},(∀a∈ca,a.i≠i)→Env.at (tj e ca ds) i=Env.at e i
 |[],_,[],_=>rfl
 |[],_,_::_,_=>rfl
 |_::_,_,[],_=>rfl
 |a::l,e,d::ds,h=>by
  simp only[tj];rw[VH (ca:=l) fun b ag=>h b (by simp[ag]),Env.k7,if_neg (h a (by simp))]
theorem VI{S:ay}: ∀{ps:gy} {k:Nat},jD k ps=true→∀a∈cR S ps,k≤a.i∧a.i<k+ps.length
 |(j,r,p)::l,k,h,a,a6=>by
  simp only[jD,Bool.and_eq_true]at h
  have aj:=Nat.eq_of_beq_eq_true h.1
  simp only[cR]at a6
  rcases List.mem_cons.1 a6 with rfl|a6
  ·simp only[List.length_cons];omega
  ·have:=VI (k:=k+1) h.2.2 a a6
   simp only[List.length_cons];omega
 |[],_,_,a,a6=>by cases a6
theorem zZ{S:ay}{e:Env}{ps:gy}{k i:Nat}{v:b9 (cR S ps)}(h:jD k ps=true)(hi:i<k∨k+ps.length≤i):Env.at (bw e (cR S ps) v) i=Env.at e i:=
 VH fun a a6=>by have:=VI h a a6;omega
theorem VJ{S:ay}: ∀{ps:gy} {k:Nat} {e:Env} {v:b9 (cR S ps)},jD k ps=true→∀{i:Nat} {r:aX} {p:fa},kg ps i=some (r,p)→(Env.at (bw e (cR S ps) v) i).r=r
 |[],_,_,_,_,_,_,_,ar=>by cases ar
 |[(j,eG,gW)],k,e,v,h,i,r,p,ar=>by
  simp only[kg]at ar
  split at ar
  ·rename_i ag
   cases ar;rw[←Nat.eq_of_beq_eq_true ag];simp only[bw,cR,ti,eK,tj];rw[Env.k7,if_pos rfl]
  ·cases ar
 |(j,eG,gW)::q::l,k,e,v,h,i,r,p,ar=>by
  simp only[jD,Bool.and_eq_true]at h
  have aj:=Nat.eq_of_beq_eq_true h.1
  obtain⟨cu,lV,q4⟩:=q
  have ao:bw e (cR S ((j,eG,gW)::(cu,lV,q4)::l)) v=bw (bd.put e j ⟨eG,v.1⟩) (cR S ((cu,lV,q4)::l)) v.2:=rfl
  have ae:jD (k+1) ((cu,lV,q4)::l)=true:=by
   simp only[jD,Bool.and_eq_true];exact h.2.2
  simp only[kg]at ar
  split at ar
  ·rename_i ag
   cases ar
   have:=Nat.eq_of_beq_eq_true ag
   rw[ao];refine(congrArg aL.r (zZ (S:=S) (e:=bd.put e j ⟨eG,v.1⟩) (ps:=(cu,lV,q4)::l) (k:=k+1) (i:=i) (v:=v.2) ae (.inl (by omega)))).trans ?_
   rw[Env.k7,if_pos this]
  ·rw[ao]
   exact VJ (S:=S) (e:=bd.put e j ⟨eG,v.1⟩) (ps:=(cu,lV,q4)::l) (k:=k+1) (v:=v.2) ae ar
theorem VK{f:aX→fa→aL}{i:Nat}: ∀{ps:gy} {e aF:Env},Env.at e i=Env.at aF i→Env.at (gF e f ps) i=Env.at (gF aF f ps) i
 |[],_,_,h=>h
 |(j,r,p)::l,e,aF,h=>by
  simp only[gF];refine VK (ps:=l) ?_
  rw[Env.k7,Env.k7,h]
theorem zf6{c:Code}{R A:Type}{n:Nat}{b:Nat→A→Step R A}{a0:A}{hd:Nat→A→aQ}{Q:Exit→aQ→Prop}{dv:aQ}{I:Nat→A→Prop}
    (aS:bV dv (hd 0 a0))(hi:I 0 a0)
    (ah: ∀k a,k<n→I k a→bJ b 0 n a0=bJ b k (n-k) a→b2 P G c (fun e st=>match e with
      | .normal=>∃bb,b k a= .bM bb∧I (k+1) bb∧bV st (hd (k+1) bb)
      |e=>Q e st) (hd k a))
    (he: ∀a,I n a→bJ b 0 n a0= .inr a→b2 P G c (fun e st=>match e with
      | .normal=>False
      |e=>Q e st) (hd n a)):b2 P G (.loop c) Q dv:=by
  refine b2.loop (ι:=Nat × A) (fun x=>hd x.1 x.2) (fun x=>x.1≤n∧bJ b 0 n a0=bJ b x.1 (n-x.1) x.2∧I x.1 x.2) (fun x=>n-x.1) (0,a0) aS ⟨Nat.zero_le _,rfl,hi⟩ ?_
  rintro⟨k,a⟩ ⟨an,hp,cS⟩
  simp only at an hp cS⊢
  by_cases nD:k<n
  · refine b2.mono (ah k a nD cS hp) fun e st ao=>?_
    cases e with
    |normal=>
      obtain⟨bb,ab,aw,ae⟩:=ao;exact⟨(k+1,bb),⟨nD,zdo hp nD ab,aw⟩,by show n-(k+1)<n-k;omega,ae⟩
    |_=>exact ao
  · have:k=n:=by omega
    subst this;refine b2.mono (he a cS (zdr hp (Nat.le_refl _))) fun e st ao=>?_
    cases e with
    |normal=>exact ao.elim
    |_=>exact ao
theorem bV.low{aq:List aC}{h:Heap}{m n b:Nat}(ab:nL n aq=true)(ae:kU n h=true)(aw:b≤n):bV ⟨aq,h,m,b⟩ ⟨aq,h,n,b⟩:=by
 intro E G a w ⟨β,ro,ah⟩
 refine⟨β,ro,ah.defers,ah.size,fun i x hx=>?_,⟨fun id o ai=>?_,ah.heap.inj,ah.heap.e8,ah.heap.lt⟩,ah.hL,?_,ah.base⟩
 ·exact(ah.slot i x hx).lower (ru ab hx)
 ·have au:=ah.heap.dq id o ai
  obtain⟨_,v7⟩:=qc ae ai
  cases au with
  |box t cs b arr aD bg cM dU=>exact .box t cs b arr aD bg cM fun j x aj=>(dU j x aj).lower (ru (v7 t cs rfl) aj)
  |row t n es xs aD bg cM=>exact .row t n es xs aD bg cM
  |fW t n es aD=>exact .fW t n es aD
  |bI bH b o aD bg cM=>exact .bI bH b o aD bg cM
 ·have t:=ah.trans
  exact⟨t.os,t.tape,t.output,t.size,t.frame,t.hz,t.gA,t.fU,t.ea,fun id o ai=>(qc ae ai).1,Nat.le_trans ah.base aw⟩
theorem Ow{n:Nat}{e:Env}{l:bd af}(h: ∀i x,l.get i=some x→af.tw n x=true): ∀(k i:Nat),nL n (ke G e l i k)=true
 |0,_=>rfl
 |k+1,i=>by
  simp only[ke,nL,Ow h k (i+1),Bool.and_true]
  cases ai:l.get i with
  |none=>rfl
  |some x=>exact C4 (h i x ai)
theorem Ox{n:Nat}: ∀{l:List (Nat × af)},xl n l=true→∀{i:Nat} {x:af},(i,x)∈l→af.tw n x=true
 |(_,_)::r,h,i,x,hm=>by
  simp only[xl,Bool.and_eq_true]at h
  rcases List.mem_cons.1 hm with q|q
  ·cases q;exact h.1
  ·exact Ox h.2 q
theorem VL{J:hH}{aW kx cg j:Nat}{S0 aO:ay}{e aD:Env}{k:Nat}{g g':List ck}(ar:jD aW J.ps=true)(tC:kx=aW+J.ps.length)(av:tv kx J.l=true)(aV:fu kx J.h=true)
 (qu: ∀c∈aO.g,c.ok aD)(h:kK (nX J (Nat.max aO.n J.n)) aW aO=true)(ir:xl J.n J.l=true)(rQ:pK J.n J.h=true)(ig:B≤J.n)(Hz:cg<N)(b4:cp aW e aD)(az:(aO.at cg).den G aD= .ad (.v (.int .i64 (j:Int)))):
 bV (aO.den G N B aD) ((ay.put ⟨fS J.l,J.h,J.n,k,g⟩ (some cg) (.bs (.int .i64) kx)).den G N B (bw (bd.put e kx ⟨.int .i64,(j:Int)⟩) (cR S0 J.ps) (cw _ (gp aO aD (cR S0 J.ps))))):=by
 have ab:=ND (G:=G) (N:=N) (B:=B) (J:=nX J (Nat.max aO.n J.n)) ar qu h (g:=g') b4
 have ae:=ab.put (i:=cg) (x:=.v (.int .i64 (j:Int))) (by rw[wY,if_pos Hz,az])
 refine ae.le.trans ?_
 rw[Dh,fL]
 have zf7:Env.at (gF (bd.put e kx ⟨.int .i64,(j:Int)⟩) (fun r p=>⟨r,(p.dO aO).get aD r⟩) J.ps) kx=⟨.int .i64,(j:Int)⟩:=by
  rw[←Dh (S0:=S0),zZ ar (.inr (by omega)),Env.k7,if_pos rfl]
 have VM:(af.bs (.int .i64) kx).den G (gF (bd.put e kx ⟨.int .i64,(j:Int)⟩) (fun r p=>⟨r,(p.dO aO).get aD r⟩) J.ps)= .ad (.v (.int .i64 (j:Int))):=by
  simp only[af.den,zf7,c3,gr,lv]
 rw[VM]
 have eh:cp kx (gF e (fun r p=>⟨r,(p.dO aO).get aD r⟩) J.ps) (gF (bd.put e kx ⟨.int .i64,(j:Int)⟩) (fun r p=>⟨r,(p.dO aO).get aD r⟩) J.ps):=fun i hi=>
  VK (by rw[Env.k7,if_neg (by omega)])
 have pL:(⟨fS J.l,J.h,J.n,kx,[]⟩:ay).cO:=⟨fun i x hx=>vc av (qZ hx),aV,rfl⟩
 have an:=l4 (G:=G) (N:=N) (B:=B) (S:=⟨fS J.l,J.h,J.n,kx,[]⟩) eh pL
 have aw:(ay.mk (fS J.l) J.h J.n k g).den G N B (gF (bd.put e kx ⟨.int .i64,(j:Int)⟩) (fun r p=>⟨r,(p.dO aO).get aD r⟩) J.ps)=(ay.mk (fS J.l) J.h J.n kx []).den G N B (gF e (fun r p=>⟨r,(p.dO aO).get aD r⟩) J.ps):=an
 rw[aw]
 refine bV.low (m:=Nat.max aO.n J.n) ?_ ?_ ig
 ·have:=Ow (G:=G) (e:=gF (bd.put e kx ⟨.int .i64,(j:Int)⟩) (fun r p=>⟨r,(p.dO aO).get aD r⟩) J.ps) (n:=J.n) (l:=(fS J.l).put cg (.bs (.int .i64) kx)) (fun i x hx=>by
   rw[bd.kl]at hx
   split at hx
   ·cases hx;rfl
   ·exact Ox ir (qZ hx)) N 0
  rw[My,VM]at this
  have uP:ke G (gF (bd.put e kx ⟨.int .i64,(j:Int)⟩) (fun r p=>⟨r,(p.dO aO).get aD r⟩) J.ps) (fS J.l) 0 N=ke G (gF e (fun r p=>⟨r,(p.dO aO).get aD r⟩) J.ps) (fS J.l) 0 N:=congrArg aQ.db an
  rw[uP]at this;exact this
 ·exact xh rQ
end
end Go.aK
namespace Go.aK
open Go
section
variable {P:Program} {G:aR} {N B:Nat} {M:List bo}
theorem VN{S:ay}{x:af}: ∀{n:Nat},Hy S x n=true→∃i,i<n∧S.at i=x
 |n+1,h=>by
  simp only[Hy,Bool.or_eq_true]at h
  rcases h with h|h
  ·exact⟨n,Nat.lt_succ_self n,ew h⟩
  ·obtain⟨i,ab,ae⟩:=VN h
   exact⟨i,by omega,ae⟩
theorem Di{j:Nat}{c:bX}{x:af}{e:Env}: ∀{l:List ck},lenOf j l=some (c,x)→(∀c∈l,c.ok e)→Env.at e j=⟨.int .i64,(List.length (x.aN e (.li c)):Int)⟩
 | .d1 i f y::r,h,hc=>by
  have ah: ∀{c x},lenOf j r=some (c,x)→Env.at e j=⟨.int .i64,(List.length (x.aN e (.li c)):Int)⟩:=fun h=>Di h fun c hm=>hc c (by simp[hm])
  have aS:=hc (.d1 i f y) (by simp)
  cases f with
  |kd d=>
   simp only[lenOf]at h
   split at h
   ·rename_i ag
    cases h;rw[←Nat.eq_of_beq_eq_true ag];exact aS
   ·exact ah h
  |_=>exact ah h
 | .d2 _ _ _ _::r,h,hc=>Di (l:=r) h fun c hm=>hc c (by simp[hm])
 | .rg _ _::r,h,hc=>Di (l:=r) h fun c hm=>hc c (by simp[hm])
 | .eL _ _::r,h,hc=>Di (l:=r) h fun c hm=>hc c (by simp[hm])
theorem zf8{S:ay}{y:af}{e:Env}{VO:Entry}{a:Act}{w:World}(hf:S.cP e)(h: ∀n∈Dg N S y,n.ok M e)(ah:Rel VO G (S.den G N B e) a w):0≤cN (y.dyn e)∧cN (y.dyn e)<9223372036854775808:=by
 have key:(gE.nth 9223372036854775808 y).ok M e→0≤cN (y.dyn e)∧cN (y.dyn e)<9223372036854775808:=fun h=>h
 unfold Dg at h
 split at h
 ·rename_i n
  split at h
  ·rename_i hd
   exact of_decide_eq_true hd
  ·exact key (h _ (by simp))
 ·rename_i j
  split at h
  ·rename_i c x av
   split at h
   ·rename_i ag
    simp only[Bool.and_eq_true]at ag;obtain⟨i,hi,hx⟩:=VN ag.1
    have ab:=Di av hf
    have zf9:x.rt=some (.li c):=by
     have:=ag.2
     unfold Cq at this
     split at this
     ·rename_i d hd
      rw[hd,of_decide_eq_true this]
     ·cases this
    have ae:=gP (G:=G) (e:=e) zf9
    have xm:aP G (S.den G N B e) (.tmp i)= .ad (.li c (x.aN e (.li c))):=by
     simp only[aP,List.getD_eq_getElem?_getD,wY,if_pos hi,hx,ae]
     rfl
    have:=zd5 ah xm
    have hd:cN ((af.bs (.int .i64) j).dyn e)=(List.length (x.aN e (.li c)):Int):=by
     simp only[af.dyn,ab,c3,cN]
    rw[hd];omega
   ·exact key (h _ (by simp))
  ·exact key (h _ (by simp))
 ·exact key (h _ (by simp))
theorem Dj{kx j:Nat}{e:Env}: ∀{l:List ck},zW kx j l=true→(∀c∈l,c.ok e)→Env.at e j=⟨.int .i64,IntKind.i64.wrap (((Env.at e kx).aI (.int .i64):Int)+1)⟩
 | .d2 i f x y::r,h,hc=>by
  have ah:zW kx j r=true→Env.at e j=⟨.int .i64,IntKind.i64.wrap (((Env.at e kx).aI (.int .i64):Int)+1)⟩:=fun h=>Dj h fun c hm=>hc c (by simp[hm])
  have aS:=hc (.d2 i f x y) (by simp)
  unfold zW at h
  split at h
  ·cases h
  ·rename_i heq
   cases heq
   split at h
   ·rename_i ag
    simp only[Bool.and_eq_true]at ag;rw[←Nat.eq_of_beq_eq_true ag.1]
    have aS:Env.at e i=_:=aS
    rw[aS,ew ag.2.1,ew ag.2.2];simp only[fN.den,af.aN,af.gw,af.dyn,c3,dw]
   ·exact ah h
  ·rename_i heq
   cases heq;exact ah h
 | .d1 _ _ _::r,h,hc=>Dj (l:=r) h fun c hm=>hc c (by simp[hm])
 | .rg _ _::r,h,hc=>Dj (l:=r) h fun c hm=>hc c (by simp[hm])
 | .eL _ _::r,h,hc=>Dj (l:=r) h fun c hm=>hc c (by simp[hm])
theorem zga{kx cg:Nat}{aO:ay}{e:Env}{i:Nat}(h:Hu kx cg aO=true)(hf:aO.cP e)(an:Env.at e kx=⟨.int .i64,(i:Int)⟩)(hi:(i:Int)<9223372036854775807):(aO.at cg).den G e= .ad (.v (.int .i64 ((i+1:Nat):Int))):=by
 unfold Hu at h
 split at h
 ·rename_i j hx
  have:=Dj h hf
  rw[hx];simp only[af.den,this,c3,an,gr,lv];rw[zdh (by omega)]
 ·cases h
theorem VP{cur:Nat}: ∀{t:aH} {e:Env} {S:ay},t.zX cur=some S→t.safe M e∧∃aF,run M t e=some (.ext cur,S,aF)
 | .lt _ _ t,e,S,h=>VP (t:=t) h
 | .dc x S0,e,S,h=>by
  refine⟨trivial,?_⟩
  unfold aH.zX at h
  split at h
  ·rename_i heq;cases heq
  ·rename_i m bP heq
   cases heq
   split at h
   ·rename_i ag
    cases h;rw[←Nat.eq_of_beq_eq_true ag];exact⟨e,rfl⟩
   ·cases h
  ·cases h
 | .fF _ _,_,_,h=>by cases h
 | .it _ _ _,_,_,h=>by cases h
 | .eo _ _ _ _,_,_,h=>by cases h
 | .e6 _ _ _ _ _ _ _,_,_,h=>by cases h
 | .fz _ _ _ _ _,_,_,h=>by cases h
 | .bad _,_,_,h=>by cases h
theorem VQ{dr:ay}: ∀{ps:gy},Hw dr ps=true→∀{i:Nat} {r:aX} {p:fa},kg ps i=some (r,p)→p.dO dr= .bs r i
 |(j,eG,gW)::l,h,i,r,p,ar=>by
  simp only[Hw,Bool.and_eq_true]at h;simp only[kg]at ar
  split at ar
  ·rename_i ag
   cases ar;rw[ew h.1,Nat.eq_of_beq_eq_true ag]
  ·exact VQ h.2 ar
theorem VR{J cF:hH}{aW kx cg cur:Nat}: ∀{l:List (cf × ay)},vl J cF aW kx cg cur l=true→∀{x:cf} {aO:ay},(x,aO)∈l→(x= .b8→Hv J aW kx cg aO=true)∧(x= .ext cur→kK cF aW aO=true)
 |(y,dr)::r,h,x,aO,hm=>by
  have aV:vl J cF aW kx cg cur r=true∧(y= .b8→Hv J aW kx cg dr=true)∧(y= .ext cur→kK cF aW dr=true):=by
   cases y with
   |b8=>
    simp only[vl,Bool.and_eq_true]at h;exact⟨h.2,fun _=>h.1,fun e=>(by cases e)⟩
   |ext m=>
    simp only[vl,Bool.and_eq_true]at h;refine⟨h.2,fun e=>(by cases e),fun e=>?_⟩
    cases e
    have ab:=h.1
    rw[Nat.beq_refl]at ab;exact ab
   |ret=>exact⟨h,fun e=>(by cases e),fun e=>(by cases e)⟩
   |mE m=>exact⟨h,fun e=>(by cases e),fun e=>(by cases e)⟩
  rcases List.mem_cons.1 hm with q|q
  ·cases q;exact aV.2
  ·exact VR aV.1 q
theorem b2.rel{c:Code}{Q:Exit→aQ→Prop}{s:aQ}(h:(∃E a w,Rel E G s a w)→b2 P G c Q s):b2 P G c Q s:=fun E a w ah=>h ⟨E,a,w,ah⟩ E a w ah
theorem zgb{ps:gy}: ∀{k i:Nat},jD k ps=true→k≤i→i<k+ps.length→∃r p,kg ps i=some (r,p):=by
 induction ps with
 |nil=>intro k i _ ab ae;simp at ae;omega
 |cons q l aY=>
  obtain⟨j,r,p⟩:=q;intro k i h ab ae;simp only[jD,Bool.and_eq_true]at h
  have aj:=Nat.eq_of_beq_eq_true h.1
  simp only[kg]
  split
  ·exact⟨r,p,rfl⟩
  ·rename_i ag
   refine aY h.2.2 ?_ (by simp only[List.length_cons]at ae;omega)
   have:j≠i:=fun e=>by rw[e,Nat.beq_refl]at ag;cases ag
   omega
theorem VS{i:Nat}: ∀{ca:List iL} {e aF:Env} {ds:List aL},Env.at e i=Env.at aF i→Env.at (tj e ca ds) i=Env.at (tj aF ca ds) i
 |[],_,_,[],h=>h
 |[],_,_,_::_,h=>h
 |_::_,_,_,[],h=>h
 |a::l,e,aF,d::ds,h=>by
  simp only[tj];refine VS (ca:=l) ?_
  rw[Env.k7,Env.k7,h]
theorem Oy{c:Code}{f:ay→aH}(hf:l7 P G N B M c f){cur:Nat}{S:ay}{I:q5}{e:Env}(ag:S.cO)(fv:S.cP e)(ao:(zY N B f cur S I).safe M e):b2 P G (.loop c) (kL G N B M (zY N B f cur S I) e S.k) (S.den G N B e):=by
 unfold zY VF at ao⊢
 split at ao
 rotate_left
 ·exact ao.elim
 rename_i vm
 generalize Dk:f (I.H S)=t1 at ao vm⊢
 generalize VT:f (I.E S)=t2 at vm
 simp only[VE,Bool.and_eq_true]at vm
 obtain⟨⟨aB,bU,b7⟩,⟨c2,dT,fo⟩,⟨fh,om,pd⟩,⟨sU,nG⟩,Oz,⟨OA,OB⟩,Dl⟩:=vm
 have sU:=e9 sU
 have nG:=Nat.le_of_ble_eq_true nG
 obtain⟨hM,gK⟩:=nV ao
 have gK:(aH.e6 (t1.lvl+1) cur (.qK (.int .i64) I.y) (I.kx S) (cR S I.J.ps) (t1.rel (gx (t1.lvl+1))) (.dc (.ext cur) ⟨fS I.cF.l,I.cF.h,I.cF.n,I.kx S,S.g⟩)).safe M e:=gK
 refine b2.rel fun⟨VO,ac,w,dE⟩=>?_
 obtain⟨zt,z2⟩:=zf8 (M:=M) (e:=e) fv hM dE
 have OC:I.y.rt=some (.int .i64):=by
  unfold isInt at dT
  split at dT
  ·assumption
  ·cases dT
 generalize dm:aH.e6 (t1.lvl+1) cur (.qK (.int .i64) I.y) (I.kx S) (cR S I.J.ps) (t1.rel (gx (t1.lvl+1))) (.dc (.ext cur) ⟨fS I.cF.l,I.cF.h,I.cF.n,I.kx S,S.g⟩)=sc at gK
 have zgc:run M (emit S.k [] (Dg N S I.y) sc) e=run M sc e:=nd
 refine b2.mono (Q':=kL G N B M (emit S.k [] (Dg N S I.y) sc) e S.k) ?_ fun ex st h=>h
 refine b2.mono (Q:=kL G N B M sc e S.k) ?_ fun ex st h=>h.sub zgc (cp.refl _ _) (Nat.le_refl _)
 have tC:I.kx S=S.k+I.J.ps.length:=rfl
 have z1:I.H S=ay.put ⟨fS I.J.l,I.J.h,I.J.n,I.kx S+1,.rg (I.kx S) I.y::S.g⟩ (some I.cg) (.bs (.int .i64) (I.kx S)):=rfl
 have HA:I.E S=ay.put ⟨fS I.J.l,I.J.h,I.J.n,I.kx S,S.g⟩ (some I.cg) I.y:=rfl
 generalize iX:I.kx S=kx at*
 have pL:cN ((b1.qK (.int .i64) I.y).den M e)=cN (I.y.dyn e):=by
  rw[nT OC];rfl
 generalize wb:cN (I.y.dyn e)=Z at*
 have OD:t1.lvl<t1.lvl+1:=Nat.lt_succ_self _
 have pJ:=Ms OD
 subst dm
 obtain⟨⟨Inv,OE,HB⟩,an⟩:=gK
 rw[pL]at HB
 have cy: ∀L,bJ (fun i (v:b9 (cR S I.J.ps))=>dD M (t1.lvl+1) cur (cR S I.J.ps) (t1.rel (gx (t1.lvl+1))) (bw (bd.put e kx ⟨.int .i64,(i:Int)⟩) (cR S I.J.ps) v) v) 0 Z.toNat (cw _ (eu e (cR S I.J.ps)))=L→
  run M (aH.e6 (t1.lvl+1) cur (.qK (.int .i64) I.y) kx (cR S I.J.ps) (t1.rel (gx (t1.lvl+1))) (.dc (.ext cur) ⟨fS I.cF.l,I.cF.h,I.cF.n,kx,S.g⟩)) e=Sum.elim (fun r=>r) (fun v=>some (.ext cur,⟨fS I.cF.l,I.cF.h,I.cF.n,kx,S.g⟩,bw e (cR S I.J.ps) v)) L:=fun L hp=>by
  rw[GY,pL,hp];rfl
 generalize zgd:aH.e6 (t1.lvl+1) cur (.qK (.int .i64) I.y) kx (cR S I.J.ps) (t1.rel (gx (t1.lvl+1))) (.dc (.ext cur) ⟨fS I.cF.l,I.cF.h,I.cF.n,kx,S.g⟩)=sc at cy

 have z6: ∀(i:Nat) (v:b9 (cR S I.J.ps)),cp S.k e (bw (bd.put e kx ⟨.int .i64,(i:Int)⟩) (cR S I.J.ps) v):=fun i v j aj=>by
  rw[zZ aB (.inl aj),Env.k7,if_neg (by omega)]
 have OF: ∀(i:Nat) (v:b9 (cR S I.J.ps)),Env.at (bw (bd.put e kx ⟨.int .i64,(i:Int)⟩) (cR S I.J.ps) v) kx=⟨.int .i64,(i:Int)⟩:=fun i v=>by
  rw[zZ aB (.inr (by omega)),Env.k7,if_pos rfl]
 have zge: ∀(i:Nat) (v:b9 (cR S I.J.ps)),cp kx (bw (bd.put e kx ⟨.int .i64,(i:Int)⟩) (cR S I.J.ps) v) (bw e (cR S I.J.ps) v):=fun i v j aj=>by
  refine VS ?_
  rw[Env.k7,if_neg (by omega)]
 have vn: ∀(v:b9 (cR S I.J.ps)),cp S.k e (bw e (cR S I.J.ps) v):=fun v j aj=>zZ aB (.inl aj)
 have zgf:(I.H S).k=kx+1:=by rw[z1,kO]
 have zgg:(I.E S).k=kx:=by rw[HA,kO]
 have VU:I.y.lt kx=true:=hE (by omega) fo
 have OG:(I.H S).cO:=by
  rw[z1];refine kM ⟨fun i x hx=>hE (Nat.le_succ kx) (vc bU (qZ hx)),w0 (Nat.le_succ kx) b7,?_⟩ (l1 (Nat.lt_succ_self kx))
  show(ck.lt (kx+1) (.rg kx I.y)&&fR (kx+1) S.g)=true;simp only[ck.lt,hE (Nat.le_succ kx) VU,l1 (Nat.lt_succ_self kx),qP (show S.k≤kx+1 by omega) ag.g,Bool.and_self]
 have zgh:(I.E S).cO:=by
  rw[HA];exact kM ⟨fun i x hx=>vc bU (qZ hx),b7,qP (show S.k≤kx by omega) ag.g⟩ VU
 have VV: ∀aF,cp S.k e aF→cN (I.y.dyn aF)=Z:=fun aF h=>by rw[uV h fo,wb]
 have OH: ∀(i:Nat) (v:b9 (cR S I.J.ps)),i<Z.toNat→(I.H S).cP (bw (bd.put e kx ⟨.int .i64,(i:Int)⟩) (cR S I.J.ps) v):=fun i v hi=>by
  rw[z1];refine kN fun d hd=>?_
  rcases List.mem_cons.1 hd with rfl|hd
  ·show 0≤cN (Env.at _ kx)∧cN (Env.at _ kx)<cN (I.y.dyn _)
   rw[OF,VV _ (z6 i v)];show 0≤(i:Int)∧(i:Int)<Z;omega
  ·exact jU (z6 i v) ag.g fv d hd
 have zgi: ∀(i:Nat) (v:b9 (cR S I.J.ps)),(I.E S).cP (bw (bd.put e kx ⟨.int .i64,(i:Int)⟩) (cR S I.J.ps) v):=fun i v=>by
  rw[HA];exact kN (jU (z6 i v) ag.g fv)
 have HC: ∀bP:ay,bP=⟨fS I.cF.l,I.cF.h,I.cF.n,kx,S.g⟩→bP.cO:=fun bP h=>by
  subst h;exact⟨fun i x hx=>vc OA (qZ hx),OB,qP (show S.k≤kx by omega) ag.g⟩

 have lR: ∀(v:b9 (cR S I.J.ps)) (st:aQ),run M sc e=some (.ext cur,⟨fS I.cF.l,I.cF.h,I.cF.n,kx,S.g⟩,bw e (cR S I.J.ps) v)→bV st ((ay.mk (fS I.cF.l) I.cF.h I.cF.n kx S.g).den G N B (bw e (cR S I.J.ps) v))→kL G N B M sc e S.k (.exit cur) st:=fun v st ab ae=>
  ⟨.ext cur,_,_,ab,rfl,ae,HC _ rfl,jU (vn v) ag.g fv,vn v,(show S.k≤kx by omega)⟩
 refine zf6 (n:=Z.toNat) (b:=fun i (v:b9 (cR S I.J.ps))=>dD M (t1.lvl+1) cur (cR S I.J.ps) (t1.rel (gx (t1.lvl+1))) (bw (bd.put e kx ⟨.int .i64,(i:Int)⟩) (cR S I.J.ps) v) v) (a0:=cw _ (eu e (cR S I.J.ps)))
  (hd:=fun i v=>(I.H S).den G N B (bw (bd.put e kx ⟨.int .i64,(i:Int)⟩) (cR S I.J.ps) v)) (I:=Inv) ?_ OE (fun k v nD cS hp=>?_) (fun v cS hp=>?_)
 ·rw[Ov,z1]
  exact VL (g':=S.g) aB tC bU b7 fv fh om pd nG sU (cp.refl _ _) (by rw[ew c2];rfl)
 ·obtain⟨dp,di⟩:=HB k v nD cS
  have z7:=hf (I.H S) (bw (bd.put e kx ⟨.int .i64,(k:Int)⟩) (cR S I.J.ps) v) OG (OH k v nD) (by rw[Dk];exact(na pJ).1 dp)
  refine b2.mono z7 fun ex st ⟨x,aO,aD,ab,ae,aw,aM,bn,cl,dW⟩=>?_
  rw[Dk]at ab;rw[zgf]at cl dW;obtain⟨OI,OJ⟩:=VR Oz (pN ab)
  have kX:run M (t1.rel (gx (t1.lvl+1))) (bw (bd.put e kx ⟨.int .i64,(k:Int)⟩) (cR S I.J.ps) v)=some (gx (t1.lvl+1) x,aO,aD):=by rw[CC pJ,ab];rfl
  have nh:dD M (t1.lvl+1) cur (cR S I.J.ps) (t1.rel (gx (t1.lvl+1))) (bw (bd.put e kx ⟨.int .i64,(k:Int)⟩) (cR S I.J.ps) v) v=e2 (t1.lvl+1) cur (cR S I.J.ps) (fun x S e=>some (x,S,e)) (gx (t1.lvl+1) x) aO aD:=by
   unfold dD;rw[kX]
  have xn:cp S.k e aD:=cp.trans (z6 k v) cl (by omega)
  have out: ∀ex,C2 x ex→gx (t1.lvl+1) x=x→x.b6 (t1.lvl+1)=false→x.dy cur=false→kL G N B M sc e S.k ex st:=fun ex ae hm aj hx=>by
   rw[hm,lA aj hx]at nh
   have:=cy _ (zdp hp nD nh)
   exact⟨x,aO,aD,this,ae,aw,aM,bn,xn,by omega⟩
  cases x with
  |mE m=>cases ex<;>exact ae.elim
  |ret=>cases ex<;>first|exact ae.elim|exact out _ ae rfl rfl rfl
  |b8=>
   cases ex with
   |normal=>
    have hx:=OI rfl
    simp only[Hv,Bool.and_eq_true]at hx;rw[pD (x:=gx (t1.lvl+1) .b8) (show cf.b6 (t1.lvl+1) (.mE (t1.lvl+1))=true from Nat.beq_refl _)]at nh
    refine⟨_,nh,di _ (by rw[kf,nh];rfl),aw.trans ?_⟩
    simp only[z1];refine VL (g':=S.g) aB tC bU b7 bn hx.1 om pd nG sU xn (zga hx.2 bn ?_ (by omega))
    rw[cl kx (Nat.lt_succ_self kx),OF]
   |_=>exact ae.elim
  |ext m=>
   cases ex with
   |exit o6=>
    have ae:m=o6:=ae
    subst ae
    cases hm:Nat.beq m cur with
    |false=>exact out _ rfl rfl rfl hm
    |true=>
     have:=Nat.eq_of_beq_eq_true hm
     subst this;rw[pE (x:=gx (t1.lvl+1) (.ext m)) (show cf.b6 (t1.lvl+1) (.ext m)=false from rfl) (show cf.dy m (.ext m)=true from hm)]at nh
     have wc:=cy _ (zdq hp nD nh)
     refine lR _ st wc (aw.trans ?_)
     rw[Dh];exact G6 (J:=⟨I.cF.l,I.cF.h,I.cF.n,I.J.ps⟩) aB bn (OJ rfl) (g:=S.g) xn
   |_=>exact ae.elim
 ·cases OK:t2.zX cur with
  |none=>rw[OK]at Dl;cases Dl
  |some dr=>
   rw[OK]at Dl;simp only[Bool.and_eq_true]at Dl;obtain⟨tu,q4⟩:=Dl;obtain⟨s1,bg,s2⟩:=VP (M:=M) (e:=bw (bd.put e kx ⟨.int .i64,(Z.toNat:Int)⟩) (cR S I.J.ps) v) OK
   have z7:=hf (I.E S) (bw (bd.put e kx ⟨.int .i64,(Z.toNat:Int)⟩) (cR S I.J.ps) v) zgh (zgi _ v) (by rw[VT];exact s1)
   have oS:(I.E S).den G N B (bw (bd.put e kx ⟨.int .i64,(Z.toNat:Int)⟩) (cR S I.J.ps) v)=(I.H S).den G N B (bw (bd.put e kx ⟨.int .i64,(Z.toNat:Int)⟩) (cR S I.J.ps) v):=by
    rw[HA,z1,fL,fL]
    have ab:I.y.den G (bw (bd.put e kx ⟨.int .i64,(Z.toNat:Int)⟩) (cR S I.J.ps) v)= .ad (.v (.int .i64 Z)):=by
     rw[k9 OC,←nT OC,VV _ (z6 _ v)]
    have ae:(af.bs (.int .i64) kx).den G (bw (bd.put e kx ⟨.int .i64,(Z.toNat:Int)⟩) (cR S I.J.ps) v)= .ad (.v (.int .i64 Z)):=by
     simp only[af.den,OF,c3,gr,lv];rw[Int.toNat_of_nonneg zt]
    rw[ab,ae];rfl
   rw[oS]at z7;refine b2.mono z7 fun ex st ⟨x,aO,aD,ab,ae,aw,aM,bn,cl,dW⟩=>?_
   rw[VT,s2]at ab;cases ab;rw[zgg]at cl
   cases ex with
   |exit m=>
    have ae:cur=m:=ae
    subst ae;refine lR v st (cy _ hp) (aw.trans ?_)
    have hle:=G6 (G:=G) (N:=N) (B:=B) (J:=⟨I.cF.l,I.cF.h,I.cF.n,I.J.ps⟩) aB bn tu (g:=S.g) (cp.trans (z6 _ v) cl (by omega):cp S.k e bg)
    refine hle.trans ?_
    have eh:cp kx (gF e (fun r p=>⟨r,(p.dO dr).get bg r⟩) I.J.ps) (bw e (cR S I.J.ps) v):=fun i hi=>by
     rcases Nat.lt_or_ge i S.k with bE|jP
     ·rw[CX aB i bE,vn v i bE]
     ·obtain⟨r,p,ar⟩:=zgb aB jP (by omega)
      rw[NC aB ar,VQ q4 ar]
      have sZ:=(UG aB ar).2.2
      have ai:(af.bs r i).get bg r=(Env.at bg i).aI r:=by
       cases r<;>first|(simp only[af.get,af.aN,af.gw,af.dyn,c3];done)|cases sZ
      rw[ai,cl i hi,←zge Z.toNat v i hi]
      have xo:=VJ (S:=S) (e:=e) (v:=v) aB ar
      generalize Env.at (bw e (cR S I.J.ps) v) i=d at xo⊢;obtain⟨eG,ly⟩:=d;simp only at xo;subst xo;rw[c3]
    have Oe:=HC ⟨fS I.cF.l,I.cF.h,I.cF.n,kx,S.g⟩ rfl
    have zgj:=l4 (G:=G) (N:=N) (B:=B) (S:=⟨fS I.cF.l,I.cF.h,I.cF.n,kx,S.g⟩) eh Oe
    rw[zgj];exact bV.refl _
   |_=>exact ae.elim
end
end Go.aK
namespace Go.aK
open Go
def vo(J cF:hH)(aW cur:Nat):List (cf × ay)→Bool
 |[]=>true
 |(.b8,aO)::r=>kK (nX J (Nat.max aO.n J.n)) aW aO&&vo J cF aW cur r
 |(.ext m,aO)::r=>(match Nat.beq m cur with
  |true=>kK cF aW aO
  |false=>true)&&vo J cF aW cur r
 |_::r=>vo J cF aW cur r
def VW(B cur:Nat)(S:ay)(J cF:hH)(t1:aH):Bool:=
 (jD S.k J.ps&&(tv (S.k+J.ps.length) J.l&&fu (S.k+J.ps.length) J.h))&&((kK (nX J (Nat.max S.n J.n)) S.k S&&(xl J.n J.l&&pK J.n J.h))&&(Nat.ble B J.n&&(vo J ⟨cF.l,cF.h,cF.n,J.ps⟩ S.k cur t1.ends&&(tv (S.k+J.ps.length) cF.l&&fu (S.k+J.ps.length) cF.h))))
def VX(B cur:Nat)(S:ay)(J cF:hH)(t1:aH):aH:=
 match VW B cur S J cF t1 with
 |true=>.fz (t1.lvl+1) cur (cR S J.ps) (t1.rel (gx (t1.lvl+1))) (.dc (.ext cur) ⟨fS cF.l,cF.h,cF.n,S.k+J.ps.length,S.g⟩)
 |false=>.bad (zV t1.oU 61)
def HD(B:Nat)(f:ay→aH)(cur:Nat)(S:ay)(J cF:hH):aH:=VX B cur S J cF (f (J.S S.k S.g))
def Dm(cur:Nat):List (cf × ay)→List ay × List ay
 |[]=>([],[])
 |(.b8,S)::r=>match Dm cur r with
  |(a,b)=>(S::a,b)
 |(.ext m,S)::r=>match Dm cur r with
  |(a,b)=>match Nat.beq m cur with
   |true=>(a,S::b)
   |false=>(a,b)
 |_::r=>Dm cur r
def HE(S:ay):Nat→Nat→List (Nat × af)
 |0,_=>[]
 |n+1,i=>match S.at i with
  | .top=>HE S n (i+1)
  |x=>(i,x)::HE S n (i+1)
def zgk(N aW cur:Nat)(S:ay)(t:aH):hH:=
 match Dm cur t.ends with
 |(a,b)=>nX (CY N aW S (a++b)) S.n
def VY:gy→gy→Bool
 |[],[]=>true
 |(i,r,p)::l,(j,q,u)::m=>(Nat.beq i j&&iW r q)&&(pI p u&&VY l m)
 |_,_=>false
def Dn{α:Type}:List α→Nat
 |[]=>0
 |_::r=>Nat.succ (Dn r)
def zgl(J K:hH):Bool:=VY J.ps K.ps&&(Nat.beq (Dn J.l) (Dn K.l)&&Nat.beq (Dn J.h) (Dn K.h))
def OL(N:Nat)(f:ay→aH)(cur:Nat)(S:ay):Nat→hH→aH→hH × aH
 |0,J,t=>(J,t)
 |n+1,J,t=>match zgk N S.k cur S t with
  |K=>match zgl J K with
   |true=>(K,t)
   |false=>OL N f cur S n K (f (K.S S.k S.g))
def OM(j:Nat):List (Nat × b1)→Option b1
 |[]=>none
 |(i,x)::r=>match Nat.beq i j with
  |true=>some x
  |false=>OM j r
inductive ON where
 |dO (y:af)
 |ex (x:b1)
 |none
def zgm(aW:Nat)(ds:List (Nat × b1))(y:af):ON:=
 match y.lt aW with
 |true=>.dO y
 |false=>match y with
  | .bs (.int .i64) j=>match OM j ds with
   |some (.f1 .pA x)=>match x.lt aW with
    |true=>.ex (.f1 .pA x)
    |false=>.none
   |some (.f1 (.kd c) x)=>match x.lt aW with
    |true=>.ex (.f1 (.kd c) x)
    |false=>.none
   |_=>.none
  |_=>.none
def VZ(aW cur i:Nat):aH→List (Nat × b1)→ON
 | .lt j x t,ds=>VZ aW cur i t ((j,x)::ds)
 | .it (.bs .bool g) _ b,ds=>match OM g ds with
  |some (.f2 (.qJ .lss .i64) (.bs (.int .i64) yS) y)=>match Nat.beq yS i with
   |true=>match b.zX cur with
    |some _=>zgm aW ds y
    |none=>.none
   |false=>.none
  |_=>.none
 |_,_=>.none
def V0(i s:Nat):List ay→Bool
 |[]=>true
 |S::r=>Hu i s S&&V0 i s r
def zgn(x:af):Bool:=ej x (.cs (.int .i64 0))
def HF(S:ay)(cur:Nat)(t:aH)(yb:List ay):gy→Option (Nat × ON)
 |[]=>none
 |(i,.int .i64,.slot s [])::l=>match zgn (S.at s)&&V0 i s yb with
  |true=>match VZ S.k cur i t []with
   | .none=>HF S cur t yb l
   |b=>some (s,b)
  |false=>HF S cur t yb l
 |_::l=>HF S cur t yb l
def V1(s:Nat):List ay→List ay
 |[]=>[]
 |S::r=>S.put (some s) .top::V1 s r
def OO(N aW:Nat)(S:ay)(s:Nat)(y:af)(a b:List ay):q5:=
 match nX (CY N aW (S.put (some s) .top) (V1 s (a++b))) S.n with
 |J=>⟨J,nX J (G8 S.n b),s,y⟩
def HG(N:Nat)(f:ay→aH):Nat→ay→aH
 |0,_=>.bad 63
 |n+1,S=>l6 N S (f S) (HG N f n)
def zgo(y:af):Option Nat:=
 match y with
 | .cs (.int .i64 (.ofNat n))=>match Nat.ble n 16 with
  |true=>some (n+1)
  |false=>none
 |_=>none
def aH.q6:aH→Bool
 | .dc _ _=>false
 | .lt _ _ t=>t.q6
 | .fF _ t=>t.q6
 | .it _ a b=>a.q6||b.q6
 | .eo _ a _ k=>a.q6||k.q6
 | .e6 _ _ _ _ _ a k=>a.q6||k.q6
 | .fz _ _ _ a k=>a.q6||k.q6
 | .bad _=>true
def V2(t:aH)(u:Unit→aH):aH:=
 match t.q6 with
 |true=>u ()
 |false=>t
def V3(N B:Nat)(f:ay→aH)(cur:Nat)(S:ay):hH × aH→aH
 |(J,t)=>match Dm cur t.ends with
  |(a,b)=>match HF S cur t a J.ps with
   |some (s,.dO y)=>match zgo y with
    |some n=>V2 (zY N B f cur S (OO N S.k S s y a b)) fun _=>HG N f n S
    |none=>zY N B f cur S (OO N S.k S s y a b)
   |some (s,.ex x)=>match iC S.k [x]with
    |true=>emit S.k [x] [] (zY N B f cur (S.fA S.k [x]) (OO N (S.k+1) S s (.bs (.int .i64) S.k) a b))
    |false=>.bad 62
   |_=>HD B f cur S J (nX J (G8 S.n b))
def HH(x:af):Bool:=ej x (.cs (.slice none 0 0))
def zgp(n i:Nat)(S:ay):Option (TypeId × bX):=
 match S.at i with
 | .aq id=>match Nat.ble n id,dK S.h id with
  |true,some (.rw t c _)=>some (t,c)
  |_,_=>none
 |_=>none
def V4(n i:Nat):List ay→Option (TypeId × bX)
 |[]=>none
 |S::r=>match zgp n i S with
  |some x=>some x
  |none=>V4 n i r
def HI(S:ay)(a:List ay):Nat→Nat→List (Nat × TypeId × bX)
 |0,_=>[]
 |k+1,i=>match HH (S.at i)with
  |true=>match V4 S.n i a with
   |some (t,c)=>(i,t,c)::HI S a k (i+1)
   |none=>HI S a k (i+1)
  |false=>HI S a k (i+1)
def oV(N B:Nat):List (Nat × TypeId × bX)→ay→ay
 |[],S=>S
 |(i,t,c)::r,S=>match HH (S.at i)&&(Nat.blt i N&&Nat.ble B S.n)with
  |true=>oV N B r ⟨S.l.put i (.aq S.n),(S.n,.rw t c (.cs (.slice none 0 0)))::S.h,S.n+1,S.k,S.g⟩
  |false=>oV N B r S
def tD(N B:Nat)(f:ay→aH)(cur:Nat)(S:ay)(t:aH):aH:=
 V3 N B f cur S (OL N f cur S 6 ⟨HE S N 0,S.h,S.n,[]⟩ t)
def aH.ni:aH→List ay
 | .dc _ S=>[S]
 | .lt _ _ t=>t.ni
 | .fF _ t=>t.ni
 | .it _ a b=>a.ni++b.ni
 | .eo _ a _ k=>a.ni++k.ni
 | .e6 _ _ _ _ _ a k=>a.ni++k.ni
 | .fz _ _ _ a k=>a.ni++k.ni
 | .bad _=>[]
def zgq(n id off:Nat)(S:ay):Option (TypeId × bX):=
 match dK S.h id with
 |some (.dY _ l)=>match fD .top l off with
  | .aq k=>match Nat.ble n k,dK S.h k with
   |true,some (.rw t c _)=>some (t,c)
   |_,_=>none
  |_=>none
 |_=>none
def V5(n id off:Nat):List ay→Option (TypeId × bX)
 |[]=>none
 |S::r=>match zgq n id off S with
  |some x=>some x
  |none=>V5 n id off r
def HJ(S:ay)(a:List ay)(id:Nat):Nat→List af→List (Nat × Nat × TypeId × bX)
 |_,[]=>[]
 |off,x::r=>match HH x with
  |true=>match V5 S.n id off a with
   |some (t,c)=>(id,off,t,c)::HJ S a id (off+1) r
   |none=>HJ S a id (off+1) r
  |false=>HJ S a id (off+1) r
def z8(S:ay)(a:List ay):List (Nat × bQ)→List (Nat × Nat × TypeId × bX)
 |[]=>[]
 |(id,.dY _ l)::r=>HJ S a id 0 l++z8 S a r
 |_::r=>z8 S a r
def lD(B:Nat):List (Nat × Nat × TypeId × bX)→ay→ay
 |[],S=>S
 |(id,off,t,c)::r,S=>match dK S.h id with
  |some (.dY bt l)=>match(match l[off]? with|some x=>HH x|none=>false)&&Nat.ble B S.n with
   |true=>lD B r ⟨S.l,kG ((S.n,.rw t c (.cs (.slice none 0 0)))::S.h) id (.dY bt (l.set off (.aq S.n))),S.n+1,S.k,S.g⟩
   |false=>lD B r S
  |_=>lD B r S
def V6(N B:Nat)(f:ay→aH)(cur:Nat)(S:ay)(t:aH):aH:=
 match HI S (t.gG++t.ni) N 0 with
 |[]=>match z8 S (t.gG++t.ni) S.h with
  |[]=>tD N B f cur S t
  |q::qs=>tD N B f cur (lD B (q::qs) S) (f (lD B (q::qs) S))
 |p::r=>tD N B f cur (lD B (z8 S (t.gG++t.ni) S.h) (oV N B (p::r) S)) (f (lD B (z8 S (t.gG++t.ni) S.h) (oV N B (p::r) S)))
def OP(N B:Nat)(f:ay→aH)(cur:Nat)(S:ay):aH:=V6 N B f cur S (f S)
section
variable {P:Program} {G:aR} {N B:Nat} {M:List bo}
theorem V7{J cF:hH}{aW cur:Nat}: ∀{l:List (cf × ay)},vo J cF aW cur l=true→∀{x:cf} {aO:ay},(x,aO)∈l→(x= .b8→kK (nX J (Nat.max aO.n J.n)) aW aO=true)∧(x= .ext cur→kK cF aW aO=true)
 |(y,dr)::r,h,x,aO,hm=>by
  have aV:vo J cF aW cur r=true∧(y= .b8→kK (nX J (Nat.max dr.n J.n)) aW dr=true)∧(y= .ext cur→kK cF aW dr=true):=by
   cases y with
   |b8=>
    simp only[vo,Bool.and_eq_true]at h;exact⟨h.2,fun _=>h.1,fun e=>(by cases e)⟩
   |ext m=>
    simp only[vo,Bool.and_eq_true]at h;refine⟨h.2,fun e=>(by cases e),fun e=>?_⟩
    cases e
    have ab:=h.1
    rw[Nat.beq_refl]at ab;exact ab
   |ret=>exact⟨h,fun e=>(by cases e),fun e=>(by cases e)⟩
   |mE m=>exact⟨h,fun e=>(by cases e),fun e=>(by cases e)⟩
  rcases List.mem_cons.1 hm with q|q
  ·cases q;exact aV.2
  ·exact V7 aV.1 q
theorem zgr{c:Code}{R A:Type}{n:Nat}{b:A→Step R A}{a0:A}{hd:A→aQ}{Q:Exit→aQ→Prop}{dv:aQ}{I:A→Prop}
    (aS:bV dv (hd a0))(hi:I a0)(he:lx b n a0)
    (ah: ∀a,I a→(∀r,b a= .ret r→dA b n a0= .inl r)→(∀v,b a= .c9 v→dA b n a0= .inr v)→b2 P G c (fun e st=>match e with
      | .normal=>∃bb,b a= .bM bb∧I bb∧bV st (hd bb)
      |e=>Q e st) (hd a)):b2 P G (.loop c) Q dv:=by
  refine b2.loop (ι:=Nat × A) (fun x=>hd x.2) (fun x=>(dA b n a0=dA b x.1 x.2∧lx b x.1 x.2)∧I x.2) (fun x=>x.1) (n,a0) aS ⟨⟨rfl,he⟩,hi⟩ ?_
  rintro⟨k,a⟩ ⟨hp,cS⟩
  refine b2.mono (ah a cS (fun r ag=>zdN hp ag) (fun v ag=>zdO hp ag)) fun e st ao=>?_
  cases e with
  |normal=>
    obtain⟨bb,ab,aw,ae⟩:=ao;obtain⟨m,aM,bn⟩:=zdM hp ab;exact⟨(m,bb),⟨bn,aw⟩,by show m<k;omega,ae⟩
  |_=>exact ao
theorem V8{J:hH}{aW kx:Nat}{S0 aO:ay}{e aD:Env}{k:Nat}{g g':List ck}(ar:jD aW J.ps=true)(qu: ∀c∈aO.g,c.ok aD)(h:kK (nX J (Nat.max aO.n J.n)) aW aO=true)(ir:xl J.n J.l=true)(rQ:pK J.n J.h=true)(ig:B≤J.n)(b4:cp aW e aD):
 bV (aO.den G N B aD) ((ay.mk (fS J.l) J.h J.n k g).den G N B (bw e (cR S0 J.ps) (cw _ (gp aO aD (cR S0 J.ps))))):=by
 have ab:=ND (G:=G) (N:=N) (B:=B) (J:=nX J (Nat.max aO.n J.n)) ar qu h (g:=g') b4
 refine ab.le.trans ?_
 rw[Dh]
 refine bV.low (m:=Nat.max aO.n J.n) ?_ ?_ ig
 ·exact Ow (n:=J.n) (l:=fS J.l) (fun i x hx=>Ox ir (qZ hx)) N 0
 ·exact xh rQ
theorem zgs{c:Code}{f:ay→aH}(hf:l7 P G N B M c f){cur:Nat}{S:ay}{J cF:hH}{e:Env}(ag:S.cO)(fv:S.cP e)(ao:(HD B f cur S J cF).safe M e):b2 P G (.loop c) (kL G N B M (HD B f cur S J cF) e S.k) (S.den G N B e):=by
 unfold HD VX at ao⊢
 split at ao
 rotate_left
 ·exact ao.elim
 rename_i vm
 generalize Dk:f (J.S S.k S.g)=t1 at ao vm⊢
 simp only[VW,Bool.and_eq_true]at vm
 obtain⟨⟨aB,bU,b7⟩,⟨fh,om,pd⟩,nG,Oz,OA,OB⟩:=vm
 have nG:=Nat.le_of_ble_eq_true nG
 have OD:t1.lvl<t1.lvl+1:=Nat.lt_succ_self _
 have pJ:=Ms OD
 obtain⟨⟨Inv,OE,HB⟩,zgt,an⟩:=ao
 generalize tC:S.k+J.ps.length=kx at*
 have hle:S.k≤kx:=by rw[←tC];exact Nat.le_add_right _ _
 have cy: ∀L,dA (fun(v:b9 (cR S J.ps))=>dD M (t1.lvl+1) cur (cR S J.ps) (t1.rel (gx (t1.lvl+1))) (bw e (cR S J.ps) v) v) dt (cw _ (eu e (cR S J.ps)))=L→
  run M (aH.fz (t1.lvl+1) cur (cR S J.ps) (t1.rel (gx (t1.lvl+1))) (.dc (.ext cur) ⟨fS cF.l,cF.h,cF.n,kx,S.g⟩)) e=Sum.elim (fun r=>r) (fun v=>some (.ext cur,⟨fS cF.l,cF.h,cF.n,kx,S.g⟩,bw e (cR S J.ps) v)) L:=fun L hp=>by
  rw[GZ,hp];rfl
 have zgu:lx (fun(v:b9 (cR S J.ps))=>dD M (t1.lvl+1) cur (cR S J.ps) (t1.rel (gx (t1.lvl+1))) (bw e (cR S J.ps) v) v) dt (cw _ (eu e (cR S J.ps))):=
  (Mq (fun _=>()) (fun v=>kf _ _ _ _ _ v) _ _).1 zgt
 generalize zgd:aH.fz (t1.lvl+1) cur (cR S J.ps) (t1.rel (gx (t1.lvl+1))) (.dc (.ext cur) ⟨fS cF.l,cF.h,cF.n,kx,S.g⟩)=sc at cy
 have vn: ∀(v:b9 (cR S J.ps)),cp S.k e (bw e (cR S J.ps) v):=fun v j aj=>zZ aB (.inl aj)
 have OG:(J.S S.k S.g).cO:=⟨fun i x hx=>by show x.lt (S.k+J.ps.length)=true;rw[tC];exact vc bU (qZ hx),by show fu (S.k+J.ps.length) J.h=true;rw[tC];exact b7,by show fR (S.k+J.ps.length) S.g=true;rw[tC];exact qP hle ag.g⟩
 have OH: ∀(v:b9 (cR S J.ps)),(J.S S.k S.g).cP (bw e (cR S J.ps) v):=fun v=>jU (vn v) ag.g fv
 have HC: ∀bP:ay,bP=⟨fS cF.l,cF.h,cF.n,kx,S.g⟩→bP.cO:=fun bP h=>by
  subst h;exact⟨fun i x hx=>vc OA (qZ hx),OB,qP hle ag.g⟩
 refine zgr (n:=dt) (b:=fun(v:b9 (cR S J.ps))=>dD M (t1.lvl+1) cur (cR S J.ps) (t1.rel (gx (t1.lvl+1))) (bw e (cR S J.ps) v) v) (a0:=cw _ (eu e (cR S J.ps)))
  (hd:=fun v=>(J.S S.k S.g).den G N B (bw e (cR S J.ps) v)) (I:=Inv) ?_ OE zgu (fun v cS zgv zgw=>?_)
 ·rw[Ov]
  exact V8 (kx:=kx) (g':=S.g) aB fv fh om pd nG (cp.refl _ _)
 ·obtain⟨dp,di⟩:=HB v cS
  have z7:=hf (J.S S.k S.g) (bw e (cR S J.ps) v) OG (OH v) (by rw[Dk];exact(na pJ).1 dp)
  refine b2.mono z7 fun ex st ⟨x,aO,aD,ab,ae,aw,aM,bn,cl,dW⟩=>?_
  rw[Dk]at ab
  have zgx:(J.S S.k S.g).k=kx:=tC
  rw[zgx]at cl dW;obtain⟨OI,OJ⟩:=V7 Oz (pN ab)
  have kX:run M (t1.rel (gx (t1.lvl+1))) (bw e (cR S J.ps) v)=some (gx (t1.lvl+1) x,aO,aD):=by rw[CC pJ,ab];rfl
  have nh:dD M (t1.lvl+1) cur (cR S J.ps) (t1.rel (gx (t1.lvl+1))) (bw e (cR S J.ps) v) v=e2 (t1.lvl+1) cur (cR S J.ps) (fun x S e=>some (x,S,e)) (gx (t1.lvl+1) x) aO aD:=by
   unfold dD;rw[kX]
  have xn:cp S.k e aD:=cp.trans (vn v) cl hle
  have out: ∀ex,C2 x ex→gx (t1.lvl+1) x=x→x.b6 (t1.lvl+1)=false→x.dy cur=false→kL G N B M sc e S.k ex st:=fun ex ae hm aj hx=>by
   rw[hm,lA aj hx]at nh;exact⟨x,aO,aD,cy _ (zgv _ nh),ae,aw,aM,bn,xn,Nat.le_trans hle dW⟩
  cases x with
  |mE m=>cases ex<;>exact ae.elim
  |ret=>cases ex<;>first|exact ae.elim|exact out _ ae rfl rfl rfl
  |b8=>
   cases ex with
   |normal=>
    rw[pD (x:=gx (t1.lvl+1) .b8) (show cf.b6 (t1.lvl+1) (.mE (t1.lvl+1))=true from Nat.beq_refl _)]at nh
    exact⟨_,nh,di _ (by rw[kf,nh];rfl),aw.trans (V8 (kx:=kx) (g':=S.g) aB bn (OI rfl) om pd nG xn)⟩
   |_=>exact ae.elim
  |ext m=>
   cases ex with
   |exit o6=>
    have ae:m=o6:=ae
    subst ae
    cases hm:Nat.beq m cur with
    |false=>exact out _ rfl rfl rfl hm
    |true=>
     have:=Nat.eq_of_beq_eq_true hm
     subst this;rw[pE (x:=gx (t1.lvl+1) (.ext m)) (show cf.b6 (t1.lvl+1) (.ext m)=false from rfl) (show cf.dy m (.ext m)=true from hm)]at nh
     refine⟨.ext m,_,_,cy _ (zgw _ nh),rfl,aw.trans ?_,HC _ rfl,jU (vn _) ag.g fv,vn _,hle⟩
     rw[Dh];exact G6 (J:=⟨cF.l,cF.h,cF.n,J.ps⟩) aB bn (OJ rfl) (g:=S.g) xn
   |_=>exact ae.elim
theorem V9{c:Code}{f:ay→aH}(hf:l7 P G N B M c f){Q:Exit→aQ→Prop}: ∀(n:Nat) {S:ay} {e:Env},S.cO→S.cP e→(HG N f n S).safe M e→(∀ex st,kL G N B M (HG N f n S) e S.k ex st→Q ex st)→y2 P G c Q n (S.den G N B e)
 |0,_,_,_,_,ao,_=>ao.elim
 |n+1,S,e,ag,fv,ao,ed=>by
  obtain⟨t1,t2,t3⟩:=Ha (G:=G) (B:=B) ag fv ao;refine y2.rd n (b2.mono (hf S e ag fv t1) fun ex st ar=>?_)
  obtain⟨x,bP,aF,ab,ae,aw,aM,bn,cl,dW⟩:=ar
  have other:x≠ .b8→Q ex st:=fun bW=>ed ex st ⟨x,bP,aF,t2 x bP aF ab bW (U6 ae),ae,aw,aM,bn,cl,dW⟩
  cases x with
  |b8=>
   cases ex with
   |normal=>
    obtain⟨dr,bg,s1,s2,iQ,jf,jg,ku,nF⟩:=t3 bP aF ab aM bn cl dW
    have:=V9 hf n s2 iQ ku (Q:=Q) fun ex st ar=>ed ex st (ar.sub nF jf jg)
    exact fun E a w ah=>this E a w (s1 E G a w (aw E G a w ah))
   |_=>exact ae.elim
  |ret=>cases ex<;>first|exact ae.elim|exact other (by simp)
  |ext n=>cases ex<;>first|exact ae.elim|exact other (by simp)
  |mE n=>cases ex<;>exact ae.elim
theorem OQ{c:Code}{Q:Exit→aQ→Prop}{e:Env}: ∀(l:List (Nat × TypeId × bX)) {S:ay},S.cO→S.cP e→(oV N B l S).cO∧(oV N B l S).cP e∧(oV N B l S).k=S.k∧(b2 P G c Q ((oV N B l S).den G N B e)→b2 P G c Q (S.den G N B e))
 |[],_,ag,hf=>⟨ag,hf,rfl,fun h=>h⟩
 |(i,t,d)::r,S,ag,hf=>by
  unfold oV
  split
  ·rename_i hc
   simp only[Bool.and_eq_true]at hc;obtain⟨aB,bU,b7⟩:=hc
   have gJ:(⟨S.l.put i (.aq S.n),(S.n,.rw t d (.cs (.slice none 0 0)))::S.h,S.n+1,S.k,S.g⟩:ay).cO:=by
    refine⟨fun j x hx=>?_,?_,ag.g⟩
    ·simp only[bd.kl]at hx
     split at hx
     ·cases hx;rfl
     ·exact ag.l j x hx
    ·show(bQ.lt S.k (.rw t d (.cs (.slice none 0 0)))&&fu S.k S.h)=true
     rw[ag.h];rfl
   obtain⟨ab,ae,aw,aM⟩:=OQ r gJ hf;refine⟨ab,ae,aw,fun h=>?_⟩
   refine b2.zds i t (du d) ?_ (by rw[wY,if_pos (e9 bU),ew aB];rfl) b7
   have:=aM h
   have hd:(⟨S.l.put i (.aq S.n),(S.n,.rw t d (.cs (.slice none 0 0)))::S.h,S.n+1,S.k,S.g⟩:ay).den G N B e={S.den G N B e with db:=(S.den G N B e).db.set i (.aq (S.den G N B e).next),heap:=((S.den G N B e).next,.row false t (du d) [])::(S.den G N B e).heap,next:=(S.den G N B e).next+1}:=by
    simp only[ay.den,My,c6,af.den,bQ.den,af.aN,af.gw,c3];rfl
   rw[hd]at this;exact this
  ·exact OQ r ag hf
theorem Dp{c:Code}{Q:Exit→aQ→Prop}{e:Env}: ∀(l:List (Nat × Nat × TypeId × bX)) {S:ay},S.cO→S.cP e→(lD B l S).cO∧(lD B l S).cP e∧(lD B l S).k=S.k∧(b2 P G c Q ((lD B l S).den G N B e)→b2 P G c Q (S.den G N B e))
 |[],_,ag,hf=>⟨ag,hf,rfl,fun h=>h⟩
 |(id,off,t,d)::r,S,ag,hf=>by
  unfold lD
  split
  ·rename_i bt l ai
   split
   ·rename_i hc
    simp only[Bool.and_eq_true]at hc;obtain⟨aB,b7⟩:=hc
    have av:=zK ag.h ai
    have gJ:(⟨S.l,kG ((S.n,.rw t d (.cs (.slice none 0 0)))::S.h) id (.dY bt (l.set off (.aq S.n))),S.n+1,S.k,S.g⟩:ay).cO:=by
     refine⟨ag.l,Hj (o:=.dY bt (l.set off (.aq S.n))) (N2 (x:=.aq S.n) rfl av) ?_,ag.g⟩
     show(bQ.lt S.k (.rw t d (.cs (.slice none 0 0)))&&fu S.k S.h)=true;rw[ag.h];rfl
    obtain⟨ab,ae,aw,aM⟩:=Dp r gJ hf;refine⟨ab,ae,aw,fun h=>?_⟩
    have:=aM h
    have bf:aE (S.den G N B e).heap id=some (.box bt (af.b0 G e l)):=by simp only[ay.den,e7,ai,Option.map_some,bQ.den]
    have an:(af.b0 G e l)[off]? =some (.ad (.v (.slice none 0 0))):=by
     rw[fE,List.getElem?_map]
     cases hx:l[off]? with
     |none=>rw[hx]at aB;cases aB
     |some x=>
      rw[hx]at aB
      have:=ew aB
      subst this;rfl
    refine b2.le (bV.zd0 (s:=S.den G N B e) id off t (du d) bf an (Nat.le_of_ble_eq_true b7) rfl) ?_
    have hd:(⟨S.l,kG ((S.n,.rw t d (.cs (.slice none 0 0)))::S.h) id (.dY bt (l.set off (.aq S.n))),S.n+1,S.k,S.g⟩:ay).den G N B e={S.den G N B e with heap:=eA (((S.den G N B e).next,.row false t (du d) [])::(S.den G N B e).heap) id (.box bt ((af.b0 G e l).set off (.aq (S.den G N B e).next))),next:=(S.den G N B e).next+1}:=by
     simp only[ay.den,u4,c6,bQ.den,N3,af.den,af.aN,af.gw,c3];rfl
    rw[hd]at this;exact this
   ·exact Dp r ag hf
  ·exact Dp r ag hf
theorem OR{c:Code}{f:ay→aH}{cur:Nat}{S:ay}{e:Env}{t:aH}(hf:l7 P G N B M c f)(ag:S.cO)(fv:S.cP e)(ao:(tD N B f cur S t).safe M e):b2 P G (.loop c) (kL G N B M (tD N B f cur S t) e S.k) (S.den G N B e):=by
 unfold tD at ao⊢
 generalize OL N f cur S 6 ⟨HE S N 0,S.h,S.n,[]⟩ t=zgy at ao⊢
 obtain⟨J,t⟩:=zgy
 simp only[V3]at ao⊢
 split at ao
 ·split at ao
  ·unfold V2 at ao⊢
   split at ao
   ·exact b2.rounds _ (V9 hf _ ag fv ao fun _ _ h=>h)
   ·exact Oy hf ag fv ao
  ·exact Oy hf ag fv ao
 ·rename_i s x _
  split at ao
  ·rename_i hx
   obtain⟨_,gK⟩:=nV ao;obtain⟨ct,a2,a3⟩:=tB (M:=M) (G:=G) (N:=N) (B:=B) ag fv hx
   have:=Oy hf ct a2 gK
   rw[a3]at this;exact b2.mono this fun ex st ar=>ar.sub (by rw[nd]) (la (Nat.le_refl _)) (Nat.le_add_right _ _)
  ·exact ao.elim
 ·exact zgs hf ag fv ao
theorem zgz:Ok P G N B M (OP N B):=by
 intro c f cur hf S e ag fv ao
 unfold OP V6 at ao⊢
 generalize f S=t at ao⊢
 split at ao
 ·split at ao
  ·exact OR hf ag fv ao
  ·rename_i q qs _
   obtain⟨ab,ae,aw,aM⟩:=Dp (P:=P) (G:=G) (N:=N) (B:=B) (c:=.loop c) (Q:=kL G N B M (tD N B f cur (lD B (q::qs) S) (f (lD B (q::qs) S))) e S.k) (e:=e) (q::qs) ag fv;refine aM ?_
   have:=OR hf ab ae ao
   rw[aw]at this;exact this
 ·rename_i p r _
  generalize z8 S (t.gG++t.ni) S.h=cE at ao⊢;obtain⟨g1,g2,g3,g4⟩:=OQ (P:=P) (G:=G) (N:=N) (B:=B) (c:=.loop c) (Q:=kL G N B M (tD N B f cur (lD B cE (oV N B (p::r) S)) (f (lD B cE (oV N B (p::r) S)))) e S.k) (e:=e) (p::r) ag fv;obtain⟨ab,ae,aw,aM⟩:=Dp (P:=P) (G:=G) (N:=N) (B:=B) (c:=.loop c) (Q:=kL G N B M (tD N B f cur (lD B cE (oV N B (p::r) S)) (f (lD B cE (oV N B (p::r) S)))) e S.k) (e:=e) cE g1 g2;refine g4 (aM ?_)
  have:=OR hf ab ae ao
  rw[aw,g3]at this;exact this
end
end Go.aK
namespace Go.aK
open Go
def OS(ops:Array Oper)(m:List Bool)(i:Nat)(D:List Nat)(j:Nat):Bool:=
 !(m.toArray.getD j true)&&(!(Nat.beq j i)&&match ops[j]? with
  |some o=>o.after.any fun e=>Region.binds .any e&&(e.on==i||D.contains e.on)
  |none=>false)
def HK(ops:Array Oper)(m:List Bool)(i:Nat):List Nat→List Nat→List Nat
 |[],D=>D
 |j::r,D=>match OS ops m i D j with
  |true=>HK ops m i r (j::D)
  |false=>HK ops m i r D
def HL(ops:Array Oper)(wr:List Bool)(m:List Bool)(i:Nat):Bool:=
 match HK ops m i (List.range ops.size) []with
 |D=>!(wr.getD i false)&&(D.all (OS ops m i D)&&(List.range ops.size).all fun j=>!(wr.getD j false)||(m.toArray.getD j true||D.contains j))
section
variable {P:Program} {ops:Array Oper} {Q:Exit→Act→World→Prop} {S:World→Prop} {wr:Nat→Bool}
theorem RI{i:Nat}{oi:Oper}{v:Value}(hi:ops[i]? =some oi)(uD:wr i=false)(kZ: ∀(j:Nat) (o:Oper) cs b,ops[j]? =some o→o.op≠ .select cs b)
 (ed: ∀c a w,Q (.panic c) (a.put oi.dst v) w→Q (.panic c) a w)(D:Nat→Prop):
 ∀(fuel:Nat) (listed:Array Bool) (a:Act) (w:World),
  (∀j iJ,ops[j]? =some iJ→j≠i→listed.getD j true=false→(∀e∈iJ.after,Region.binds .any e=true→e.on≠i)→oi.apart ops iJ=true)→
  (∀j iJ,ops[j]? =some iJ→wr j=true→listed.getD j true=false→D j)→
  (∀j,D j→listed.getD j true=false∧j≠i∧∃iJ,ops[j]? =some iJ∧∃e∈iJ.after,Region.binds .any e=true∧(e.on=i∨D e.on))→
  i∈Region.ready .any ops listed→YieldsIf P ops S oi v a→S w→
  nz P ops Q S wr fuel (listed.setIfInBounds i true) (a.put oi.dst v) w→nz P ops Q S wr (fuel+1) listed a w:=by
 intro fuel
 induction fuel with
 |zero=>
  intro listed a w _ _ _ ah aA hS H;refine⟨fun h=>(by rw[h]at ah;cases ah),fun j aj=>?_⟩
  by_cases jJ:j=i
  ·subst jJ;exact aA.wpOp hi hS (.inr ⟨uD,hS,H⟩)
  ·have:=ready_mono aj jJ
   rw[H.1]at this
   cases this
 |succ fuel aY=>
  intro listed a w Dq Wa ll ah aA hS H;refine⟨fun h=>(by rw[h]at ah;cases ah),fun j aj=>?_⟩
  by_cases jJ:j=i
  ·subst jJ;exact aA.wpOp hi hS (.inr ⟨uD,hS,H⟩)
  ·have ab:=H.2 j (ready_mono aj jJ)
   obtain⟨Aa,iJ,ml,fi⟩:=mem_ready.1 aj
   have un: ∀k,listed.getD k true=false→∀e∈iJ.after,Region.binds .any e=true→e.on≠k:=fun k an e he ag heq=>by
    have ab:=fi e he ag
    rw[heq]at ab
    rcases Nat.lt_or_ge k listed.size with h'|h'
    ·simp[h']at an ab;rw[an]at ab;cases ab
    ·simp[Array.getElem?_eq_none h']at ab
   have HM: ∀e∈iJ.after,Region.binds .any e=true→e.on≠i:=un i (mem_ready.1 ah).1
   have Wb: ¬D j:=fun hd=>by
    obtain⟨_,_,zkj,Wc,e,he,ag,aV⟩:=ll j hd;rw[ml]at Wc
    cases Wc
    rcases aV with aV|aV
    ·exact HM e he ag aV
    ·exact un e.on (ll _ aV).1 e he ag rfl
   have uE:wr j=false:=by
    cases hw:wr j with
    |false=>rfl
    |true=>exact absurd (Wa j iJ ml hw Aa) Wb
   have ab:=wpOp_mono (K':=fun bb w'=>S w'∧nz P ops Q S wr fuel ((listed.setIfInBounds i true).setIfInBounds j true) bb w') (fun bb w' h'=>by
    rcases h' with⟨h',_⟩|⟨_,h'⟩
    ·rw[uE]at h';cases h'
    ·exact h') ab
   have ae:=wpOp_putIf ml (Dq j iJ ml jJ Aa HM) (fun cs b=>kZ i oi cs b hi) (fun cs b=>kZ j iJ cs b ml) ed aA ab
   have low: ∀k,(listed.setIfInBounds j true).getD k true=false→listed.getD k true=false:=fun k j3=>by
    by_cases xp:j=k
    ·subst xp;exact Aa
    ·rw[getD_set_ne true xp]at j3;exact j3
   have HN: ∀k ok,ops[k]? =some ok→k≠i→(listed.setIfInBounds j true).getD k true=false→
    (∀e∈ok.after,Region.binds .any e=true→e.on≠i)→oi.apart ops ok=true:=fun k ok an bF j3 gQ=>Dq k ok an bF (low k j3) gQ
   have zgA: ∀k,D k→(listed.setIfInBounds j true).getD k true=false∧k≠i∧∃ok,ops[k]? =some ok∧∃e∈ok.after,Region.binds .any e=true∧(e.on=i∨D e.on):=fun k an=>by
    obtain⟨g1,g2⟩:=ll k an;refine⟨?_,g2⟩
    have xp:j≠k:=fun aV=>Wb (by rw[aV];exact an)
    rw[getD_set_ne true xp];exact g1
   refine wpOp_mono (fun bb w' aw=>.inr ⟨uE,aw.2.1,aY (listed.setIfInBounds j true) bb w' HN (fun k ok an hw j3=>Wa k ok an hw (low k j3)) zgA (ready_mono ah (Ne.symm jJ)) aw.1 aw.2.1 ?_⟩) ae
   rw[Array.setIfInBounds_comm _ _ jJ];exact aw.2.2
theorem zgB{i:Nat}{oi:Oper}{v:Value}(hi:ops[i]? =some oi)(uD:wr i=false)(kZ: ∀(j:Nat) (o:Oper) cs b,ops[j]? =some o→o.op≠ .select cs b)
 (ed: ∀c a w,Q (.panic c) (a.put oi.dst v) w→Q (.panic c) a w):
 ∀(fuel:Nat) (listed:Array Bool) (a:Act) (w:World),
  (∀j iJ,ops[j]? =some iJ→j≠i→listed.getD j true=false→(∀e∈iJ.after,Region.binds .any e=true→e.on≠i)→oi.apart ops iJ=true)→
  i∈Region.ready .any ops listed→Yields P ops oi v a→S w→
  nz P ops Q S wr fuel (listed.setIfInBounds i true) (a.put oi.dst v) w→nz P ops Q S wr (fuel+1) listed a w:=by
 intro fuel
 induction fuel with
 |zero=>
  intro listed a w _ ah aA hS H;refine⟨fun h=>(by rw[h]at ah;cases ah),fun j aj=>?_⟩
  by_cases jJ:j=i
  ·subst jJ;exact aA.yieldsIf.wpOp hi hS (.inr ⟨uD,hS,H⟩)
  ·have:=ready_mono aj jJ
   rw[H.1]at this
   cases this
 |succ fuel aY=>
  intro listed a w Dq ah aA hS H;refine⟨fun h=>(by rw[h]at ah;cases ah),fun j aj=>?_⟩
  by_cases jJ:j=i
  ·subst jJ;exact aA.yieldsIf.wpOp hi hS (.inr ⟨uD,hS,H⟩)
  ·have ab:=H.2 j (ready_mono aj jJ)
   obtain⟨Aa,iJ,ml,fi⟩:=mem_ready.1 aj
   have HM: ∀e∈iJ.after,Region.binds .any e=true→e.on≠i:=fun e he ag heq=>by
    have ab:=fi e he ag
    have aS:=(mem_ready.1 ah).1
    rw[heq]at ab
    rcases Nat.lt_or_ge i listed.size with h'|h'
    ·simp[h']at aS ab;rw[aS]at ab;cases ab
    ·simp[Array.getElem?_eq_none h']at ab
   have ae:=wpOp_put ml (Dq j iJ ml jJ Aa HM) (fun cs b=>kZ i oi cs b hi) (fun cs b=>kZ j iJ cs b ml) ed aA ab
   have low: ∀k,(listed.setIfInBounds j true).getD k true=false→listed.getD k true=false:=fun k j3=>by
    by_cases xp:j=k
    ·subst xp;exact Aa
    ·rw[getD_set_ne true xp]at j3;exact j3
   have HN: ∀k ok,ops[k]? =some ok→k≠i→(listed.setIfInBounds j true).getD k true=false→
    (∀e∈ok.after,Region.binds .any e=true→e.on≠i)→oi.apart ops ok=true:=fun k ok an bF j3 gQ=>Dq k ok an bF (low k j3) gQ
   refine wpOp_mono (fun bb w' ⟨nS,aw⟩=>?_) ae
   rcases aw with⟨hw,aw⟩|⟨hw,Wd,aw⟩
   ·refine .inl ⟨hw,wpAny_first hi kZ ed fuel _ bb w' HN (ready_mono ah (Ne.symm jJ)) nS ?_⟩
    rw[Array.setIfInBounds_comm _ _ jJ];exact aw
   ·refine .inr ⟨hw,Wd,aY (listed.setIfInBounds j true) bb w' HN (ready_mono ah (Ne.symm jJ)) nS Wd ?_⟩
    rw[Array.setIfInBounds_comm _ _ jJ];exact aw
end
section
variable {P:Program} {G:aR} {Q:Exit→aQ→Prop} {L:List Oper} {wr:List Bool}
theorem eN.zgC{fuel:Nat}{m:List Bool}{s s':aQ}(i:Nat){o:Oper}(au:L[i]? =some o)(ar:jd P G L.toArray o s s')(k:eN P G L Q wr fuel (m.set i true) s')(ao:Region.noSelect L.toArray=true)
 (hf:Region.free .any L.toArray m.toArray i=true)(ah:(Region.ready .any L.toArray m.toArray).contains i=true)(hw:HL L.toArray wr m i=true):eN P G L Q wr (fuel+1) m s:=by
 intro E a w dE
 obtain⟨v,az,wh⟩:=ar E a w dE
 unfold HL at hw
 simp only at hw
 generalize ll:HK L.toArray m i (List.range L.toArray.size) []=D at hw
 simp only[Bool.and_eq_true]at hw
 obtain⟨ab,ae,aw⟩:=hw
 refine RI (i:=i) (oi:=o) (v:=v) (by simpa using au) (by simpa using ab) (Region.noSelect_spec ao) (fun c a w aG=>?_) (fun j=>D.contains j=true) fuel m.toArray a w (Region.free_spec (by simpa using au) hf) (fun j iJ ml uE j3=>?_) (fun j aj=>?_) (by simpa using ah) az (gg.refl w) (by simpa using k E _ w wh)
 ·obtain⟨_,⟨h,_⟩,_⟩:=aG
  cases h
 ·have:=List.all_eq_true.1 aw j (List.mem_range.2 (Array.getElem?_eq_some_iff.1 ml).1)
  rw[uE,j3]at this;simpa using this
 ·have hm:j∈D:=by simpa using aj
  have:=List.all_eq_true.1 ae j hm
  unfold OS at this;simp only[Bool.and_eq_true,Bool.not_eq_true']at this;obtain⟨g1,g2,g3⟩:=this;refine⟨g1,fun aV=>(by rw[aV,Nat.beq_refl]at g2;cases g2),?_⟩
  cases ml:L.toArray[j]? with
  |none=>rw[ml]at g3;cases g3
  |some iJ=>
   rw[ml]at g3;obtain⟨e,he,ag⟩:=Array.any_eq_true'.1 g3;simp only[Bool.and_eq_true,Bool.or_eq_true,beq_iff_eq]at ag;exact⟨iJ,rfl,e,he,ag⟩
theorem eN.RQ{fuel:Nat}{m:List Bool}{s s':aQ}(i:Nat){o:Oper}(au:L[i]? =some o)(ar:gL P G L.toArray o s s')(k:eN P G L Q wr fuel (m.set i true) s')(ao:Region.noSelect L.toArray=true)
 (hf:Region.free .any L.toArray m.toArray i=true)(ah:(Region.ready .any L.toArray m.toArray).contains i=true)(hw:wr.getD i false=false):eN P G L Q wr (fuel+1) m s:=by
 intro E a w dE
 obtain⟨v,az,wh⟩:=ar E a w dE
 refine zgB (i:=i) (oi:=o) (v:=v) (by simpa using au) hw (Region.noSelect_spec ao) (fun c a w aG=>?_) fuel m.toArray a w (Region.free_spec (by simpa using au) hf) (by simpa using ah) az (gg.refl w) (by simpa using k E _ w wh)
 obtain⟨_,⟨h,_⟩,_⟩:=aG
 cases h
theorem eN.any{fuel:Nat}{m:List Bool}{s:aQ}(bW:Region.ready .any L.toArray m.toArray≠[])(h: ∀i∈Region.ready .any L.toArray m.toArray,∃o,L[i]? =some o∧∃A:aQ→Prop,(∀t,A t→eN P G L Q wr fuel (m.set i true) t)∧
      ∀E a w,Rel E G s a w→(Region.wanted o (yielded L.toArray a.tmps)=true∧∀(K:Act→World→Prop) (Q:Exit→Act→World→Prop),(∀t,A t→∀bb w',Rel E G t bb w'→(wr.getD i false=true∨gg w w')→K bb w')→o.wp P a w K Q)∨(wr.getD i false=false∧Region.wanted o (yielded L.toArray a.tmps)=false∧∃t,A t∧Rel E G t (a.put o.dst undef) w)):eN P G L Q wr (fuel+1) m s:=by
  intro E a w ah;refine⟨fun hn=>absurd hn bW,fun j aj=>?_⟩
  obtain⟨o,au,A,k,ao⟩:=h j aj
  have eA:m.toArray.setIfInBounds j true=(m.set j true).toArray:=by simp
  have next: ∀t,A t→∀bb w',Rel E G t bb w'→(wr.getD j false=true∨gg w w')→(wr.getD j false=true∧wpAny P .any L.toArray (lift E G (ny Q)) fuel (m.toArray.setIfInBounds j true) bb w')∨(wr.getD j false=false∧gg w w'∧nz P L.toArray (lift E G (ny Q)) (gg w) (fun i=>wr.getD i false) fuel (m.toArray.setIfInBounds j true) bb w'):=fun t aJ bb w' dF an=>by
    rw[eA]
    cases hw:wr.getD j false with
    |true=>exact .inl ⟨rfl,(k t aJ).c7 E bb w' dF⟩
    |false=>
      rcases an with an|an
      · rw[hw]at an;cases an
      · exact .inr ⟨rfl,an,A7 (fun dV ae=>an.trans ae) _ _ _ _ (k t aJ E bb w' dF)⟩
  unfold wpOp;rw[show L.toArray[j]? =some o from by simpa using au]
  simp only
  rcases ao E a w ah with⟨fH,aw⟩|⟨hw,fH,t,aM,aw⟩
  · rw[if_pos fH]
    exact .inl (aw _ _ next)
  · rw[if_neg (by rw[fH];decide)]
    exact next t aM _ _ aw (.inr (gg.refl w))
end
section
variable {P:Program} {G:aR} {N B:Nat} {M:List bo}
theorem dn.later{E:Entry}{s:aQ}{a:Act}{w br:World}{β:Nat→Value}{ro:Nat→Prop}(h:dn E G s a w β ro)(an:gg w br):dn ⟨br,ro,s.heap,β,E.n,E.d⟩ G s a br β ro:=by
 have bT:w.heap.size≤br.heap.size:=by
  rcases Nat.eq_zero_or_pos w.heap.size with aS|aS
  ·omega
  ·have ab:=an (w.heap.size-1) (by omega)
   rcases Nat.lt_or_ge (w.heap.size-1) br.heap.size with ae|ae
   ·omega
   ·rw[Array.getElem?_eq_none ae,Array.getElem?_eq_getElem (by omega)]at ab
    cases ab
 have hw: ∀b,ro b→br.heap[b]? =w.heap[b]? :=fun b ag=>an b (h.heap.lt b ag)
 refine⟨h.defers,h.size,fun i x hx=>(h.slot i x hx).keep hw (fun _ h=>h) (Nat.le_refl _) (fun _ t cs ai=>⟨rfl,t,cs,ai⟩) (fun _ z t _ es ai=>⟨rfl,z,t,es,ai⟩) (fun _ bH ai=>⟨rfl,bH,ai⟩),
  ⟨fun id jy ai=>(h.heap.dq id jy ai).keep hw (fun _ h=>h) (Nat.le_refl _) bT rfl (fun av b ag=>an b ((h.heap.dq id jy ai).iG av ag)) (fun _ t cs ai=>⟨rfl,t,cs,ai⟩) (fun _ z t _ es ai=>⟨rfl,z,t,es,ai⟩) (fun _ bH ai=>⟨rfl,bH,ai⟩),h.heap.inj,h.heap.e8,fun b ag=>Nat.lt_of_lt_of_le (h.heap.lt b ag) bT⟩,
  h.hL.keep hw fun _ h=>h,⟨rfl,rfl,rfl,Nat.le_refl _,fun _ _ _=>rfl,fun b ag=>.inl ag,fun b ag=>ag,fun b ag=>.inl ag,fun id hi o ai=>⟨by rw[ai];simp,rfl⟩,h.trans.new,h.trans.le⟩,h.base⟩
theorem We{w:World}{ro:Nat→Prop}{σ:Heap}{β:Nat→Value}{n:Nat}{x:Value}{c:Value}(h:bA w ro σ β n (.ad (.v x)) c):c=x:=by
 cases h with
 |ad _ _ h=>
  cases h;rfl
theorem jd.sM{ops:Array Oper}{o:Oper}{s:aQ}{x:Value}(h:cY P G o s (.ad (.v x)))(ai:eS ops s o=some true):jd P G ops o s (s.put o.dst (.ad (.v x))):=by
 intro E a w ⟨β,ro,ah⟩
 have hw:=mh (ops:=ops) ⟨β,ro,ah⟩ ai
 obtain⟨c,_,ae⟩:=h E a w β ro ah
 refine⟨x,.inl ⟨hw,fun br an=>?_⟩,β,ro,ah.put _ _ _ (by rw[We ae]at ae;exact ae)⟩
 obtain⟨aB,aw,aM⟩:=h _ a br β ro (ah.later an)
 rw[We aM]at aw
 exact aw
def lE(P:Program)(G:aR)(ops:Array Oper)(o:Oper)(s:aQ)(A:aQ→Prop):Prop:=∀E a w,Rel E G s a w→
 (Region.wanted o (yielded ops a.tmps)=true∧∀(K:Act→World→Prop) (Q:Exit→Act→World→Prop),(∀t,A t→∀bb w',Rel E G t bb w'→gg w w'→K bb w')→o.wp P a w K Q)∨
 (Region.wanted o (yielded ops a.tmps)=false∧∃t,A t∧Rel E G t (a.put o.dst undef) w)
theorem lE.v{ops:Array Oper}{o:Oper}{s:aQ}{v:aC}{A:aQ→Prop}(h:cY P G o s v)(ai:eS ops s o=some true)(eh:A (s.put o.dst v)):lE P G ops o s A:=fun E a w ah=>
 .inl ⟨mh ah ai,fun K Q hK=>h.Jl E a w ah K Q fun bb w' dF an=>hK _ eh bb w' dF an⟩
theorem lE.no{ops:Array Oper}{o:Oper}{s:aQ}{A:aQ→Prop}(ai:eS ops s o=some false)(eh:A (s.put o.dst (.tuple []))):lE P G ops o s A:=fun E a w ah=>
 .inr ⟨mh ah ai,_,eh,ah.x1 o.dst⟩
theorem eN.one{L:List Oper}{Q:Exit→aQ→Prop}{wr:List Bool}{fuel:Nat}{m:List Bool}{s:aQ}{A:aQ→Prop}{i:Nat}{o:Oper}(au:L[i]? =some o)(h:Region.ready .any L.toArray m.toArray=[i])(hw:wr.getD i false=false)
 (ao:lE P G L.toArray o s A)(k: ∀t,A t→eN P G L Q wr fuel (m.set i true) t):eN P G L Q wr (fuel+1) m s:=by
 intro E a w ah
 refine⟨fun hn=>(by rw[h]at hn;cases hn),fun j aj=>?_⟩
 rw[h]at aj
 rcases List.mem_cons.1 aj with rfl|aj
 rotate_left
 ·cases aj
 have eA:m.toArray.setIfInBounds j true=(m.set j true).toArray:=by simp
 have next: ∀t,A t→∀bb w',Rel E G t bb w'→gg w w'→wr.getD j false=false∧gg w w'∧nz P L.toArray (lift E G (ny Q)) (gg w) (fun i=>wr.getD i false) fuel (m.toArray.setIfInBounds j true) bb w':=fun t aJ bb w' dF an=>by
  rw[eA];exact⟨hw,an,A7 (fun dV ae=>an.trans ae) _ _ _ _ (k t aJ E bb w' dF)⟩
 unfold wpOp
 rw[show L.toArray[j]? =some o from by simpa using au]
 simp only
 rcases ao E a w ah with⟨fH,aw⟩|⟨fH,t,aM,aw⟩
 ·rw[if_pos fH]
  exact .inl (aw _ _ fun t aJ bb w' dF an=>.inr (next t aJ bb w' dF an))
 ·rw[if_neg (by rw[fH];decide)]
  exact .inr (next t aM _ _ aw (gg.refl w))
def OT(P:Program)(G:aR)(ops:Array Oper)(o:Oper)(s:aQ)(A:aQ→Prop):Prop:=∀E a w,Rel E G s a w→
 Region.wanted o (yielded ops a.tmps)=true∧∀(K:Act→World→Prop) (Q:Exit→Act→World→Prop),(∀t,A t→∀bb w',Rel E G t bb w'→K bb w')→o.wp P a w K Q
theorem eN.zgD{L:List Oper}{Q:Exit→aQ→Prop}{wr:List Bool}{fuel:Nat}{m:List Bool}{s:aQ}{A:aQ→Prop}{i:Nat}{o:Oper}(au:L[i]? =some o)(h:Region.ready .any L.toArray m.toArray=[i])(hw:wr.getD i false=true)
 (ao:OT P G L.toArray o s A)(k: ∀t,A t→eN P G L Q wr fuel (m.set i true) t):eN P G L Q wr (fuel+1) m s:=by
 intro E a w ah
 refine⟨fun hn=>(by rw[h]at hn;cases hn),fun j aj=>?_⟩
 rw[h]at aj
 rcases List.mem_cons.1 aj with rfl|aj
 rotate_left
 ·cases aj
 have eA:m.toArray.setIfInBounds j true=(m.set j true).toArray:=by simp
 have next: ∀t,A t→∀bb w',Rel E G t bb w'→wr.getD j false=true∧wpAny P .any L.toArray (lift E G (ny Q)) fuel (m.toArray.setIfInBounds j true) bb w':=fun t aJ bb w' dF=>by
  rw[eA];exact⟨hw,(k t aJ).c7 E bb w' dF⟩
 unfold wpOp
 rw[show L.toArray[j]? =some o from by simpa using au]
 simp only
 obtain⟨fH,aw⟩:=ao E a w ah
 rw[if_pos fH]
 exact .inl (aw _ _ fun t aJ bb w' dF=>.inl (next t aJ bb w' dF))
theorem lE.call{ops:Array Oper}{o:Oper}{s:aQ}{xs:Array Operand}{f:FuncId}{p q:List aC}(oa:p2 P G o s f p q xs)(hJ:nr P f=true)
 (ai:eS ops s o=some true)(LF:fX (p++xs.toList.map (aP G s)++q)=true){R:aC→Heap→Prop}(hc:eJ P G f (p++xs.toList.map (aP G s)++q) [] 0 R){A:aQ→Prop}(ib: ∀r cc,R r cc→iK r=true∧A (s.put o.dst r)):lE P G ops o s A:=by
 intro E a w ⟨β,ro,h⟩
 refine .inl ⟨mh ⟨β,ro,h⟩ ai,fun K Q hK=>?_⟩
 obtain⟨c,d,ab,ae,kn,sB,cy⟩:=oa E a w β ro h
 ·unfold Oper.wp
  rw[cy w,AI hJ]
  have gY:=hc w β ro (c++xs.map a.eval++d) (by simp[ab,ae,Nat.add_assoc]) (fun i y aA=>pw (II (x:=.const undef) (f:=.func f) h ab ae kn sB i y aA) (pv LF aA))
   ⟨by simp[aE],by simp[aE],fun b _ ⟨_,_,ai,_⟩=>by simp[aE]at ai,h.heap.lt⟩ h.hL (by simp[aE])
  refine Calls.mono gY fun e w' aG=>?_
  obtain⟨v,r,cc,cK,ro',bL,rfl,ah,dE,gf,cI⟩:=aG;obtain⟨zgE,eh⟩:=ib r cc ah
  have nM: ∀b,¬Own ([]:Heap) β b:=fun b ⟨_,_,ai,_⟩=>by simp[aE]at ai
  have oF: ∀b,b<w.heap.size→w'.heap[b]? =w.heap[b]? :=fun b ag=>cI.frame b ag (nM b)
  have dG:=h.grow (w':=w') (ro':=ro') cI.os cI.tape cI.output cI.size oF cI.gA (fun b ag=>by
   rcases cI.hz b ag with q|q|q
   ·exact .inl q
   ·exact absurd q (nM b)
   ·exact .inr ⟨q,gf.lt b ag⟩)
  exact hK _ eh _ _ ⟨β,ro',dG.put o.dst r v (pw dE zgE)⟩ oF
theorem b2.RR{id:Nat}{L:List Oper}{Q:Exit→aQ→Prop}{wr:List Bool}{s:aQ}(n:Nat)(h:eN P G L Q wr n (List.replicate n false) s)(L7:P.follows .mixedOrders=true)(hn:Nat.beq L.length n=true):b2 P G (.region id L.toArray true) Q s:=b2.zdt n h.c7 L7 hn
end
end Go.aK
