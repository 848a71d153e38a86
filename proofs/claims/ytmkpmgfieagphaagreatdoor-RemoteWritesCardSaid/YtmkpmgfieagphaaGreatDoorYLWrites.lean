/- RemoteWrites. Conditions: none. -/
import Derived.Test.YtmkpmgfieagphaaGreatDoorYLwd
namespace Go.aO
open Go Go.eK
theorem WY(l:List cm):x7 l l=true:=by
 unfold x7
 dsimp only
 rw[show((l.length:Int) != (l.length:Int))=false by simp,cond_false,hq (p:=fun _=>false) (F:=fun _=>false) (fun i u=>by simp[tk]),tl fun _ _=>rfl]
theorem OT(x y:List cm):FO x y:=by
 intro h
 have h:((x.length:Int) != (y.length:Int))=false:=h
 have h:(x.length:Int)=(y.length:Int):=by simpa using h
 refine⟨fun _ _=>True,trivial,fun i _ hi _=>⟨⟨by omega,?_⟩,fun _=>trivial⟩⟩
 rw[toNat_cast]at hi
 omega
theorem Bp{n:Nat}(h:n≤1000):n≤maxLen∧n*32≤140737488355328:=by
 have:(1000:Nat)≤maxLen:=by decide
 omega
theorem OU{n:Nat}(h:n≤1000):n≤maxLen∧n*112≤140737488355328:=by
 have:(1000:Nat)≤maxLen:=by decide
 omega
theorem WZ(e:bV)(a:Attr)(aH aX:az):Bq e a aH aX:=by
 unfold Bq FP
 repeat' (first|exact x8 _|intro _|refine And.intro ?_ ?_)
theorem W0(e:bV)(a:Attr)(aH aX:az):Br e a aH aX:=by
 unfold Br Bs
 repeat' (first|exact tm _|intro _|refine And.intro ?_ ?_)
theorem W1(c:aA)(n:ByteArray)(aH:az)(vs:List az):FQ c n aH vs:=by
 refine⟨OV c,fun aS=>?_⟩
 have hc:=x9 (ih aS)
 have vj:=ya hc.wide
 refine⟨OW hc n,fun _=>⟨fun _=>yb _ _,fun _ ar=>?_⟩⟩
 have ar:(vs.length:Int)=(c.attrs.length:Int):=by
  have ar:((vs.length:Int) != (c.attrs.length:Int))=false:=ar
  simpa using ar
 refine⟨fun _ _=>True,trivial,fun i _ hi _=>⟨⟨by omega,?_⟩,yb _ _,fun _=>trivial⟩,fun _ _=>⟨Bp (by show 0+vs.length≤1000;omega),fun _ d=>d.length=c.attrs.length,by show vs.length=_;omega,fun i d hi hd=>?_⟩⟩
 ·rw[toNat_cast]at hi
  omega
 ·refine⟨fun _ d=>d.length=c.attrs.length,hd,fun j d2 af Bt=>?_,fun bW ae=>ae⟩
  rw[toNat_cast]at af
  have Bt:d2.length=c.attrs.length:=Bt
  have ag:0≤(j:Int)∧(j:Int)<(d2.length:Int):=by omega
  refine⟨fun _=>⟨ag,ag,WZ _ _ _ _,ag,ag,?_⟩,fun _=>Bt⟩
  show(List.set d2 _ _).length=_;rw[List.length_set];exact Bt
theorem W2(c:aA)(n:ByteArray)(aH:az)(vs:List az):FR c n aH vs:=by
 refine⟨OX c,fun aS=>?_⟩
 rw[FT]at aS
 have hc:=x9 (ih aS)
 have vj:=ya hc.wide
 intro v6 ax aL
 have ax:(!(km c n).2)=false:=ax
 have he: ∀i,i<v6.1.c4.length→kD c v6.1.param (v6.1.c4.getD i (av .bV))=0:=by
  show ∀i,i<(km c n).1.c4.length→kD c (km c n).1.param ((km c n).1.c4.getD i (av .bV))=0;rw[FU,OY]at ax⊢
  cases hf:cd (fun i=>decide ((c.commands.getD i (av .Command)).name=n)) c.commands.length with
  |none=>rw[hf]at ax;cases ax
  |some k=>
   have aj:=(hA hf).1
   exact(FV (hc.FW k aj) aj).2
 have J:aL:=by
  intro ar
  have ar:(vs.length:Int)=(c.attrs.length:Int):=by
   have ar:((vs.length:Int) != (c.attrs.length:Int))=false:=ar
   simpa using ar
  have hm:(1000:Nat)≤maxLen:=by decide
  refine⟨⟨by decide,by omega,by omega,by omega⟩,?_⟩
  intro a1;refine⟨fun i d=>d.length=i,rfl,fun i d hi hd=>?_,fun bl aP=>?_⟩
  ·rw[toNat_cast]at hi
   have hd:d.length=i:=hd
   refine⟨⟨by omega,by omega⟩,yc _ _,fun _=>⟨Bp (by show d.length+1≤1000;omega),?_⟩⟩
   show(List.append d [_]).length=i+1;rw[vk,hd]
  ·rw[toNat_cast]at aP
   have aP:bl.length=vs.length:=aP
   refine⟨fun _ d=>d.length=c.attrs.length,by show bl.length=_;omega,fun i d hi hd=>?_⟩
   rw[toNat_cast]at hi
   have hd:d.length=c.attrs.length:=hd
   obtain⟨j,af,_⟩:=OZ (he i hi)
   have cU:=(hA af).1
   have ag:jb c (v6.1.c4.getD (Int.toNat (i:Int)) (av .bV)).attr=(j:Int):=by rw[toNat_cast,yd,af]
   intro v22
   have FX:v22=(j:Int):=ag
   have dt:0≤v22∧v22<(c.attrs.length:Int):=by omega
   have jC:0≤v22∧v22<(d.length:Int):=by omega
   refine⟨dt,jC,jC,W0 _ _ _ _,jC,jC,?_⟩
   show(List.set d _ _).length=_;rw[List.length_set];exact hd
 exact⟨fun _ _=>J,fun _=>⟨yc _ _,fun _=>J⟩⟩
theorem W3{h:Home}(aP:fj h=0)(l:List ck)(q:aT)(cs:dF):FY h l q cs:=by
 have vj:=O0 (h:=h) q.key.dev q.key.cG
 rw[FZ aP]at vj
 refine⟨O1 _ _ _,?_⟩
 refine⟨fun i d=>d.length=i,rfl,fun i d hi hd=>?_,fun bl gw=>⟨W1 _ _ _ _,fun he=>?_⟩⟩
 ·rw[toNat_cast]at hi
  have hd:d.length=i:=hd
  have K: ∀(a b:Int) (s:ByteArray),(d.length+[(⟨a,b,s⟩:az)].length≤maxLen∧(d.length+[(⟨a,b,s⟩:az)].length)*32≤140737488355328)∧(List.append d [(⟨a,b,s⟩:az)]).length=i+1:=fun a b s=>⟨Bp (by show d.length+1≤1000;omega),by rw[vk,hd]⟩
  exact⟨W4 _ _,fun _=>⟨x8 _,K _ _ _⟩,fun _=>K _ _ _⟩
 ·rw[toNat_cast]at gw
  obtain⟨_,a2⟩:=F0 (lP h q.key.dev q.key.cG).1 q.name ⟨q.value.kind,q.value.n,q.value.s⟩ bl;obtain⟨⟨fY,_⟩,hr⟩:=a2 (ih he);refine⟨fun i d=>d.length≤i,Nat.le_refl _,fun i d hi hd=>?_⟩
  rw[toNat_cast]at hi
  have hi:i<(nf (lP h q.key.dev q.key.cG).1 q.name ⟨q.value.kind,q.value.n,q.value.s⟩ bl).1.length:=hi
  have hd:d.length≤i:=hd
  refine⟨⟨by omega,by omega⟩,fun _=>⟨⟨by omega,by omega⟩,OU (by show d.length+1≤1000;omega),?_⟩,fun _=>?_⟩
  ·show(List.append d [_]).length≤i+1
   rw[vk];omega
  ·show d.length≤i+1
   omega
theorem O2(h:Home)(l:List ck)(q:aT)(cs:dF):F1 h l q cs:=⟨O3 h q,fun aS _ _=>W3 (O4 (ih aS)) l q cs⟩
theorem O5{h:Home}(ad:h.bB.length≤1000000)(hd:h.bs.length≤1000000)(l:List ck)(q:aT)(cs:dF):F2 h l q cs:=by
 have vj:=O0 (h:=h) q.key.dev q.key.cG
 refine⟨W5 ad hd q,fun _ _ _=>⟨F3 ad hd _ _,⟨by omega,by omega⟩,?_⟩⟩
 refine⟨fun i d=>d.length=i,rfl,fun i d hi hd=>?_,fun bl gw=>⟨W2 _ _ _ _,?_⟩⟩
 ·rw[toNat_cast]at hi
  have hd:d.length=i:=hd
  have K: ∀(a b:Int) (s:ByteArray),(d.length+[(⟨a,b,s⟩:az)].length≤maxLen∧(d.length+[(⟨a,b,s⟩:az)].length)*32≤140737488355328)∧(List.append d [(⟨a,b,s⟩:az)]).length=i+1:=fun a b s=>⟨Bp (by show d.length+1≤1000;omega),by rw[vk,hd]⟩
  exact⟨W6 _ _,fun _=>⟨⟨tm _,fun _=>tm _⟩,K _ _ _⟩,fun _=>K _ _ _⟩
 ·rw[toNat_cast]at gw
  obtain⟨cf,a2⟩:=F0 (mw h q.key.dev q.key.cG).1 q.name ⟨q.value.kind,q.value.n,q.value.s⟩ bl;rw[←cf]at a2;refine⟨fun d=>0≤d.1∧(d.2.length:Int)≤d.1,fun d=>(12-d.1).toNat,⟨Int.le_refl _,Int.le_refl _⟩,by decide,fun d hd aK=>?_⟩
  obtain⟨d0,d1⟩:=hd;rw[Bool.and_eq_true]at aK;obtain⟨t1,t2⟩:=aK
  have t1:d.1<((vl (mw h q.key.dev q.key.cG).1 q.name ⟨q.value.kind,q.value.n,q.value.s⟩ bl).1.length:Int):=of_decide_eq_true t1
  obtain⟨⟨fY,_⟩,hr⟩:=a2 (by simpa using t2)
  have J: ∀o:List cm,(o.length:Int)≤d.1+1→(0≤IntKind.wrap .i64 (d.1+1)∧(o.length:Int)≤IntKind.wrap .i64 (d.1+1))∧(12-IntKind.wrap .i64 (d.1+1)).toNat<(12-d.1).toNat:=fun o ao=>by
   rw[my (by omega) (by omega)]
   omega
  refine⟨⟨d0,t1⟩,⟨d0,by omega⟩,fun _=>⟨⟨d0,by omega⟩,⟨d0,t1⟩,OU (by show d.2.length+1≤1000;omega),J (List.append d.2 _) (by rw[vk];omega)⟩,fun _=>J d.2 (by omega)⟩
theorem W7{h:Home}{l:List ck}{x:Case}(ar:x.members.length≤9223372036854775807):O6 h l x:=by
 have J: ∀v:Bool,(((((decide ((List.length h.bB:Int)>100))||(decide ((List.length h.bs:Int)>30)))||(decide ((List.length l:Int)>100)))||v)=false)→(h.bB.length≤1000000∧h.bs.length≤1000000):=fun v ax=>by
  simp only[Bool.or_eq_false_iff,decide_eq_false_iff_not]at ax;omega
 exact⟨fun _=>⟨fun _=>Bu,fun ax=>⟨O2 _ _ _ _,O5 (J _ ax).1 (J _ ax).2 _ _ _,OT _ _,fun _=>Bu⟩⟩,fun _=>⟨W8 ar,fun _=>Bu,fun ax=>⟨O2 _ _ _ _,O5 (J _ ax).1 (J _ ax).2 _ _ _,OT _ _,fun _=>Bu⟩⟩⟩
theorem W9(h:Home)(l:List ck)(x:Case):Bv h l x=true:=by
 unfold Bv
 simp only[Xa,Xb,WY]
 cases (((decide ((List.length h.bB:Int)>100))||(decide ((List.length h.bs:Int)>30)))||(decide ((List.length l:Int)>100)))<;>cases Bw x<;>rfl
theorem Xc: ∀x,(∀d∈dB pr.ps x,tn d)→k8 pr.pre x∧k9 pr.rs (pr.m x)=tq true:=by
 intro x h
 have hc:tn ⟨.st .Case,x.2.2⟩:=h _ (List.mem_of_getElem? (i:=2) rfl)
 refine⟨W7 (Xd hc),?_⟩
 show tq (Bv x.1 x.2.1 x.2.2)=tq true
 rw[W9]
end Go.aO
