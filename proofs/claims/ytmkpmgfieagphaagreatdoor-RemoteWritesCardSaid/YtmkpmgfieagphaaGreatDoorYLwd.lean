/- Writes are the reference's. Conditions: none. -/
import Derived.Test.YtmkpmgfieagphaaGreatDoorYLwc
namespace Go.aO
open Go Go.eK
def tP(l:List ck)(k:cB):Nat→Bool:=fun i=>bif(l.getD i (av .ck)).key.dev==k.dev then bif cW (l.getD i (av .ck)).key.cG k.cG then cW (l.getD i (av .ck)).key.attr k.attr else false else false
theorem Qf(l:List ck)(k:cB):sb l k=match cd (tP l k) l.length with|some i=>(i:Int)|none=> -1:=by
 unfold sb
 dsimp only
 rw[toNat_cast]
 exact hq (p:=tP l k) (F:=fun i=>(i:Int)) (fun i u=>by rw[toNat_cast];rfl)
theorem Qg(l:List ck)(k:cB):sc l k=match cd (tP l k) l.length with|some i=>(i:Int)|none=> -1:=by
 unfold sc
 dsimp only
 rw[toNat_cast]
 exact hq (p:=tP l k) (F:=fun i=>(i:Int)) (fun i u=>by rw[toNat_cast];rfl)
theorem get_eq(l:List ck)(k:cB):yV l k=yW l k:=by
 unfold yV yW
 rw[Qg,Qf]
 cases cd (tP l k) l.length with
 |none=>rfl
 |some i=>
  dsimp only;rw[decide_eq_true (show(i:Int)≥0 by omega),decide_eq_false (show ¬(i:Int)<0 by omega)]
  rfl
theorem W4(l:List ck)(k:cB):Hn l k:=by
 intro h
 have h:decide (sc l k≥0)=true:=h
 show 0≤sc l k∧sc l k<(l.length:Int)
 rw[Qg]at h⊢
 cases hf:cd (tP l k) l.length with
 |none=>rw[hf]at h;cases h
 |some i=>
  have:=(hA hf).1
  dsimp only;omega
theorem W6(l:List ck)(k:cB):Ho l k:=by
 intro h
 have h:decide (sb l k<0)=false:=h
 show 0≤sb l k∧sb l k<(l.length:Int)
 rw[Qf]at h⊢
 cases hf:cd (tP l k) l.length with
 |none=>rw[hf]at h;cases h
 |some i=>
  have:=(hA hf).1
  dsimp only;omega
theorem zero_eq(a:Attr):yX a=yY a:=by
 unfold yX yY
 dsimp only
 rw[yw,P6]
 unfold gX
 dsimp only
 rw[show(gH a != 0)= !(gH a==0)from rfl]
 cases gH a==0<;>cases a.kind==2<;>rfl
theorem O4{h:Home}{q:aT}(aS:lg h q=0):fj h=0:=by
 unfold lg at aS
 exact(qF aS).1
theorem ZS{h:Home}(aP:fj h=0)(j:Nat):(h.bB.getD j (av .aA)).attrs.length≤12:=by
 by_cases af:j<h.bB.length
 ·exact ya (yE (tH aP) j af).1.wide
 ·rw[List.getD_eq_getElem?_getD,List.getElem?_eq_none (by omega)]
  exact Nat.zero_le _
theorem O0{h:Home}(x:Int)(n:ByteArray):(mw h x n).1.attrs.length≤12:=by
 rw[GR]
 cases aS:(fj h != 0)with
 |true=>exact Nat.zero_le _
 |false=>
  simp only[cond_false]
  cases hf:cd (fun i=>(h.bs.getD i (av .bx)).id==x) h.bs.length with
  |none=>exact Nat.zero_le _
  |some i=>
   dsimp only
   cases decide (lV (h.bs.getD i (av .bx)).bB n<0)with
   |true=>exact Nat.zero_le _
   |false=>exact ZS (ih aS) _
theorem ZT{c:aA}{n:ByteArray}{aH:az}{vs:List az}(h:(nf c n aH vs).2=0):c.attrs.length≤12:=by
 have Hl:nf c n aH vs=bif(jc c != 0)then([],jc c)else bif !(ko c n).2 then([],8)else bif(sa (ko c n).1 aH != 0)then([],sa (ko c n).1 aH)else vU c (ko c n).1 aH vs:=rfl
 cases aS:(jc c != 0)with
 |true=>
  rw[Hl,aS]at h
  have h:jc c=0:=h
  rw[h]at aS;cases aS
 |false=>exact ya (x9 (ih aS)).wide
theorem Qh{R A:Type}{g:Nat→A→A}{n:Nat}{b:Int × A→Step R (Int × A)}{b':Nat→A→Step A A}(ad: ∀k,k<n→∀o,b ((k:Int),o)= .bn (((k+1:Nat):Int),g k o))(he: ∀o,b ((n:Int),o)= .cN ((n:Int),o))(ga: ∀k,k<n→∀o,b' k o= .bn (g k o)):
 ∀(m k f:Nat) (o:A),k+m=n→m<f→∃ct,c7 b f ((k:Int),o)= .inr ((n:Int),ct)∧bq b' k m o= .inr ct
 |0,k,f+1,o,aj,_=>by
  have:k=n:=by omega
  subst this;exact⟨o,Bz (he o),rfl⟩
 |m+1,k,f+1,o,aj,hf=>by
  obtain⟨ct,aa,ae⟩:=Qh ad he ga m (k+1) f (g k o) (by omega) (by omega)
  exact⟨ct,by rw[F8 (ad k (by omega) o)];exact aa,by rw[bq,ga k (by omega)];exact ae⟩
theorem ZU(h:Home)(l:List ck)(q:aT)(cs:dF)(aP:fj h=0)(aj:q.kind=3)(aS:vM h q=0):sd h l q cs=yZ h l q cs:=by
  unfold sd yZ;rw[aS,aj,FZ aP];simp only[get_eq,zero_eq,toNat_cast,bne_self_eq_false,cond_false,show((3:Int)==2)=false from rfl,show((3:Int) != 3)=false from rfl]
  refine el (fun _ _ _=>rfl) fun bl=>?_
  generalize (lP h q.key.dev q.key.cG).1=c;obtain⟨cf,a2⟩:=F0 c q.name ⟨q.value.kind,q.value.n,q.value.s⟩ bl;rw[cf]
  have a3:(nf c q.name ⟨q.value.kind,q.value.n,q.value.s⟩ bl).2=0→c.attrs.length≤12:=fun h=>ZT h
  generalize nf c q.name ⟨q.value.kind,q.value.n,q.value.s⟩ bl=r at a2 a3⊢;obtain⟨vs,e⟩:=r;dsimp only at a2 a3⊢
  cases he:e==0 with
  |false=>
    obtain⟨f,hf⟩: ∃f,dG=f+1:=⟨dG-1,by decide⟩
    rw[show(e != 0)= !(e==0)from rfl,he,hf,Bz (y:=((0:Int),([]:List cm))) (by simp only[Bool.and_false,cond_false])]
    rfl
  |true=>
    have iM:e=0:=by simpa using he
    have ar:=(a2 iM).1.1
    have vj:=a3 iM
    have hn:vs.length≤12:=by omega
    rw[show(e != 0)= !(e==0)from rfl,he]
    simp only[Bool.and_true,Bool.not_true,cond_false]
    obtain⟨ct,g1,g2⟩:=Qh (R:=List cm) (n:=vs.length)
      (g:=fun(k:Nat) (o:List cm)=>bif(!(bif(vs.getD k (av .az)).kind==(bl.getD k (av .az)).kind then bif(vs.getD k (av .az)).n==(bl.getD k (av .az)).n then cW (vs.getD k (av .az)).s (bl.getD k (av .az)).s else false else false))then
        List.append o ([⟨⟨q.key.dev,c.name,(c.attrs.getD k (av .Attr)).name⟩,⟨(vs.getD k (av .az)).kind,(vs.getD k (av .az)).n,(vs.getD k (av .az)).s⟩,⟨cs.kind,cs.name,cs.priority⟩,0⟩]:List cm)else o)
      (b:=fun(bW:Int × (List cm))=>
        bif decide (bW.1<(List.length vs:Int))then
         (bif(!(bif(List.getD vs (Int.toNat bW.1) (av .az)).kind==(List.getD bl (Int.toNat bW.1) (av .az)).kind then bif(List.getD vs (Int.toNat bW.1) (av .az)).n==(List.getD bl (Int.toNat bW.1) (av .az)).n then cW (List.getD vs (Int.toNat bW.1) (av .az)).s (List.getD bl (Int.toNat bW.1) (av .az)).s else false else false))then
          .bn ((IntKind.wrap .i64 (bW.1+(1:Int))),(List.append bW.2 ([⟨⟨q.key.dev,c.name,(List.getD c.attrs (Int.toNat bW.1) (av .Attr)).name⟩,⟨(List.getD vs (Int.toNat bW.1) (av .az)).kind,(List.getD vs (Int.toNat bW.1) (av .az)).n,(List.getD vs (Int.toNat bW.1) (av .az)).s⟩,⟨cs.kind,cs.name,cs.priority⟩,0⟩]:List cm)))
         else .bn ((IntKind.wrap .i64 (bW.1+(1:Int))),bW.2))
        else .cN (bW.1,bW.2))
      (b':=fun(i15:Nat) (bW:List cm)=>
        bif(!(bif(List.getD vs i15 (av .az)).kind==(List.getD bl i15 (av .az)).kind then bif(List.getD vs i15 (av .az)).n==(List.getD bl i15 (av .az)).n then cW (List.getD vs i15 (av .az)).s (List.getD bl i15 (av .az)).s else false else false))then
         .bn (List.append bW ([⟨⟨q.key.dev,c.name,(List.getD c.attrs i15 (av .Attr)).name⟩,⟨(List.getD vs i15 (av .az)).kind,(List.getD vs i15 (av .az)).n,(List.getD vs i15 (av .az)).s⟩,⟨cs.kind,cs.name,cs.priority⟩,0⟩]:List cm))
        else .bn bW)
      (fun k aj o=>by
        simp only[toNat_cast];rw[decide_eq_true (show(k:Int)<(vs.length:Int)by omega),cond_true,my (by omega) (by omega)]
        cases (bif(vs.getD k (av .az)).kind==(bl.getD k (av .az)).kind then bif(vs.getD k (av .az)).n==(bl.getD k (av .az)).n then cW (vs.getD k (av .az)).s (bl.getD k (av .az)).s else false else false)<;>rfl)
      (fun o=>by
        dsimp only;rw[decide_eq_false (show ¬(vs.length:Int)<(vs.length:Int)by omega)]
        rfl)
      (fun k aj o=>by
        cases (bif(vs.getD k (av .az)).kind==(bl.getD k (av .az)).kind then bif(vs.getD k (av .az)).n==(bl.getD k (av .az)).n then cW (vs.getD k (av .az)).s (bl.getD k (av .az)).s else false else false)<;>rfl)
      vs.length 0 dG [] (Nat.zero_add _) (Nat.lt_of_le_of_lt hn (by decide))
    have g1:c7 _ dG ((0:Int),([]:List cm))=_:=g1
    rw[g1,g2];rfl
theorem Xb(h:Home)(l:List ck)(q:aT)(cs:dF):y0 h l q cs=sd h l q cs:=by
 have Hk:y0 h l q cs=bif(lg h q != 0)then[]else bif(q.kind==2)then([⟨⟨q.key.dev,q.key.cG,q.key.attr⟩,⟨q.value.kind,q.value.n,q.value.s⟩,⟨cs.kind,cs.name,cs.priority⟩,0⟩]:List cm)else bif(q.kind==3)then yZ h l q cs else[]:=rfl
 rw[Hk]
 cases aS:(lg h q != 0)with
 |true=>
  unfold sd;rw[GU,aS];rfl
 |false=>
  have aP:=ih aS
  by_cases au:q.kind=3
  ·rw[←ZU h l q cs (O4 aP) au (by rw[GU];exact aP),au]
   rfl
  ·unfold sd
   rw[GU,aS,show(q.kind != 3)= !(q.kind==3)from rfl,beq_eq_false_iff_ne.2 au]
   rfl
end Go.aO
