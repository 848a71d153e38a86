/- Put is the reference's: the place of a guest. Conditions: none. -/
import Derived.Test.YtmkpmgfieagphaaGreatDoorHLy
import Derived.Test.YtmkpmgfieagphaaGreatDoorHLOnce
namespace Go.aN
open Go Go.eg
theorem Iq{R A:Type}{b:Nat→A→Step R A}(S:Nat→A): ∀(n k:Nat),(∀i,k≤i→i<k+n→b i (S i)= .bh (S (i+1)))→bm b k n (S k)= .inr (S (k+n))
 |0,k,_=>rfl
 |n+1,k,h=>by
  have aJ:=h k (Nat.le_refl _) (by omega)
  have aZ:=Iq S n (k+1) (fun i aa ae=>h i (by omega) (by omega))
  rw[show k+1+n=k+(n+1)by omega]at aZ
  rw[bm,aJ];exact aZ
def nT(g:Nat→Bool)(n k:Nat):Int:=match(List.range' k (n-k)).find? g with|some j=>(j:Int)|none=>(n:Int)
def p7(e:Nat→Bool)(n k:Nat):Bool:=((List.range' k (n-k)).find? e).isSome
theorem zbz(g:Nat→Bool){n k:Nat}(h:k<n):nT g n k=bif g k then(k:Int)else nT g n (k+1):=by
 unfold nT
 rw[show n-k=(n-(k+1))+1 by omega,List.range'_succ,List.find?_cons]
 cases g k<;>rfl
theorem zbA(e:Nat→Bool){n k:Nat}(h:k<n):p7 e n k=bif e k then true else p7 e n (k+1):=by
 unfold p7
 rw[show n-k=(n-(k+1))+1 by omega,List.range'_succ,List.find?_cons]
 cases e k<;>rfl
theorem zbB(g:Nat→Bool)(n:Nat):nT g n n=(n:Int):=by unfold nT;rw[Nat.sub_self];rfl
theorem zbC(e:Nat→Bool)(n:Nat):p7 e n n=false:=by unfold p7;rw[Nat.sub_self];rfl
theorem zbD(g:Nat→Bool)(n:Nat):nT g n 0=match bH g n with|some j=>(j:Int)|none=>(n:Int):=by
 unfold nT bH
 rw[Nat.sub_zero,List.range_eq_range']
theorem zbE(e:Nat→Bool)(n:Nat):p7 e n 0=(bH e n).isSome:=by
 unfold p7 bH
 rw[Nat.sub_zero,List.range_eq_range']
theorem down{R:Type}{g e:Nat→Bool}{n:Nat}{b:Int × Bool × Int→Step R (Int × Bool × Int)}
 (ad: ∀k,k<n→∀A F,b (A,F,(k:Int))= .bh (bif g k then(k:Int)else A,bif e k then true else F,(k:Int)-1))(he: ∀A F,b (A,F, -1)= .cz (A,F, -1)):
 ∀k f,k≤n→k<f→cJ b f (nT g n k,p7 e n k,(k:Int)-1)= .inr (nT g n 0,p7 e n 0, -1)
 |0,f+1,_,_=>y7 (he _ _)
 |k+1,f+1,aj,hf=>by
  have h:=ad k (by omega) (nT g n (k+1)) (p7 e n (k+1))
  rw[←zbz g (by omega),←zbA e (by omega)]at h
  rw[show((k+1:Nat):Int)-1=(k:Int)by omega,y8 h]
  exact down ad he k f (by omega) (by omega)
theorem DC{α:Type}{l:List α}{i:Nat}(d:α)(h:i<l.length):l.take (i+1)=l.take i++[l.getD i d]:=by
 rw[List.take_add_one,List.getD_eq_getElem?_getD,List.getElem?_eq_getElem h]
 rfl
theorem zbF{l:List aX}{i0:Nat}{v:aX}(aJ:i0<l.length){b:Nat→Bool × List aX→Step (List aX) (Bool × List aX)}
 (aa: ∀i,i<i0→∀o,b i (false,o)= .bh (false,o++[l.getD i (aw .aX)]))(ae: ∀o,b i0 (false,o)= .bh (true,o++[v]))
 (au: ∀i,i<l.length→∀o,b i (true,o)= .bh (true,o++[l.getD i (aw .aX)])):bm b 0 l.length (false,[])= .inr (true,l.set i0 v):=by
 have key:=Iq (b:=b) (fun i=>(decide (i0<i),(l.set i0 v).take i)) l.length 0 (fun i _ hi=>by
  have hi:i<l.length:=by omega
  have aH:=DC (l:=l.set i0 v) (aw .aX) (i:=i) (by rw[List.length_set];exact hi)
  have hd:(l.set i0 v).getD i (aw .aX)=bif decide (i0=i)then v else l.getD i (aw .aX):=by
   rw[List.getD_eq_getElem?_getD,List.getElem?_set,List.getD_eq_getElem?_getD]
   by_cases a6:i0=i
   ·rw[if_pos a6,if_pos aJ,decide_eq_true a6];rfl
   ·rw[if_neg a6,decide_eq_false a6];rfl
  show b i (decide (i0<i),(l.set i0 v).take i)=_;rw[aH,hd]
  rcases Nat.lt_trichotomy i i0 with c|c|c
  ·rw[decide_eq_false (show ¬i0<i by omega),decide_eq_false (show ¬i0<i+1 by omega),decide_eq_false (show ¬i0=i by omega),aa i c]
   rfl
  ·subst c
   rw[decide_eq_false (show ¬i<i by omega),decide_eq_true (show i<i+1 by omega),decide_eq_true rfl,ae]
   rfl
  ·rw[decide_eq_true (show i0<i by omega),decide_eq_true (show i0<i+1 by omega),decide_eq_false (show ¬i0=i by omega),au i hi]
   rfl)
 rw[show(false,([]:List aX))=(decide (i0<0),(l.set i0 v).take 0)from rfl,key]
 simp only[Nat.zero_add]
 rw[decide_eq_true aJ,show(l.set i0 v).take l.length=l.set i0 v from List.take_of_length_le (by rw[List.length_set];exact Nat.le_refl _)]
theorem zbG{l:List aX}{a:Nat}{v:aX}{b:Nat→Bool × List aX→Step (List aX) (Bool × List aX)}
 (aa: ∀i,i<l.length→i≠a→∀o,b i (false,o)= .bh (false,o++[l.getD i (aw .aX)]))(ae:a<l.length→∀o,b a (false,o)= .bh (false,(o++[v])++[l.getD a (aw .aX)])):
 bm b 0 l.length (false,[])= .inr (false,bif decide (a<l.length)then(l.take a++[v])++l.drop a else l):=by
 have key:=Iq (b:=b) (fun i=>(false,bif decide (a<i)then(l.take a++[v])++(l.drop a).take (i-a)else l.take i)) l.length 0 (fun i _ hi=>by
  have hi:i<l.length:=by omega
  show b i (false,bif decide (a<i)then(l.take a++[v])++(l.drop a).take (i-a)else l.take i)=_
  rcases Nat.lt_trichotomy i a with c|c|c
  ·rw[decide_eq_false (show ¬a<i by omega),decide_eq_false (show ¬a<i+1 by omega),cond_false,cond_false,aa i hi (by omega),DC (aw .aX) hi]
  ·subst c
   rw[decide_eq_false (show ¬i<i by omega),decide_eq_true (show i<i+1 by omega),cond_false,cond_true,ae hi,show i+1-i=0+1 by omega,DC (aw .aX) (show 0<(l.drop i).length by rw[List.length_drop];omega)]
   have:(l.drop i).getD 0 (aw .aX)=l.getD i (aw .aX):=by
    rw[List.getD_eq_getElem?_getD,List.getElem?_drop,List.getD_eq_getElem?_getD]
    rfl
   rw[this];rfl
  ·rw[decide_eq_true (show a<i by omega),decide_eq_true (show a<i+1 by omega),cond_true,cond_true,aa i hi (by omega),show i+1-a=(i-a)+1 by omega,DC (aw .aX) (show i-a<(l.drop a).length by rw[List.length_drop];omega)]
   have:(l.drop a).getD (i-a) (aw .aX)=l.getD i (aw .aX):=by
    rw[List.getD_eq_getElem?_getD,List.getElem?_drop,List.getD_eq_getElem?_getD,show a+(i-a)=i by omega]
   rw[this,List.append_assoc])
 rw[show(false,([]:List aX))=(false,bif decide (a<0)then(l.take a++[v])++(l.drop a).take (0-a)else l.take 0)from by
  rw[decide_eq_false (Nat.not_lt_zero _)]
  rfl,key]
 simp only[Nat.zero_add]
 by_cases c:a<l.length
 ·rw[decide_eq_true c,cond_true,cond_true,show(l.drop a).take (l.length-a)=l.drop a from List.take_of_length_le (by rw[List.length_drop];exact Nat.le_refl _)]
 ·rw[decide_eq_false c,cond_false,cond_false,List.take_length]
theorem zbH{ws:List aX}(aq:ws.length≤1000000)(name:ByteArray)(w:cv):z8 ws name w=wT ws name w:=by
 unfold z8 wT
 dsimp only
 rw[hD (by omega) (by omega)]
 have hd:=down (R:=List aX) (g:=fun i=>cf .gtr (ws.getD i (aw .aX)).cq name) (e:=fun i=>decide ((ws.getD i (aw .aX)).cq=name)) (n:=ws.length)
  (b:=fun(cn:Int × Bool × Int)=>bif(decide (cn.2.2≥0))then(bif(cf .eql ((List.getD ws (Int.toNat cn.2.2) (aw .aX)).cq) name)then(bif(cf .gtr ((List.getD ws (Int.toNat cn.2.2) (aw .aX)).cq) name)then .bh (cn.2.2,true,(IntKind.wrap .i64 (cn.2.2-(1:Int))))else .bh (cn.1,true,(IntKind.wrap .i64 (cn.2.2-(1:Int)))))
   else(bif(cf .gtr ((List.getD ws (Int.toNat cn.2.2) (aw .aX)).cq) name)then .bh (cn.2.2,cn.2.1,(IntKind.wrap .i64 (cn.2.2-(1:Int))))else .bh (cn.1,cn.2.1,(IntKind.wrap .i64 (cn.2.2-(1:Int))))))else .cz (cn.1,cn.2.1,cn.2.2))
  (fun k aj A F=>by
   simp only[toNat_cast,hZ];rw[decide_eq_true (show(k:Int)≥0 by omega),cond_true,hD (by omega) (by omega)]
   cases decide ((ws.getD k (aw .aX)).cq=name)<;>cases cf .gtr (ws.getD k (aw .aX)).cq name<;>rfl) (fun A F=>rfl) ws.length dk (Nat.le_refl _) (Nat.lt_of_le_of_lt aq (by decide))
 rw[zbB,zbC,zbE]at hd
 have hd:cJ _ dk ((ws.length:Int),false,(ws.length:Int)-1)=_:=hd
 rw[hd]
 cases aa:bH (fun i=>decide ((ws.getD i (aw .aX)).cq=name)) ws.length with
 |some i=>
  obtain⟨cg,a2,a3⟩:=gp aa
  have hm:hL ws name=((i:Int),true):=by rw[zR,aa]
  rw[hm];generalize nT (fun i=>cf .gtr (ws.getD i (aw .aX)).cq name) ws.length 0=A;dsimp only[Sum.elim_inr,Option.isSome_some]
  rw[toNat_cast,toNat_cast,zbF (l:=ws) (i0:=i) (v:=⟨(ws.getD i (aw .aX)).cq,w⟩) cg (fun j af o=>by
   have:=a3 j af
   simp only[toNat_cast,hZ,Bool.not_true,Bool.false_and,cond_false,Bool.not_false,Bool.and_true,Bool.true_and];rw[this];rfl) (fun o=>by
   simp only[toNat_cast,hZ,Bool.not_true,Bool.false_and,cond_false,Bool.not_false,Bool.and_true,Bool.true_and];rw[a2];rfl) (fun j af o=>by
   simp only[toNat_cast,hZ,Bool.not_true,Bool.false_and,cond_false,Bool.not_false,Bool.and_false]
   rfl)]
  rfl
 |none=>
  have cg:=me aa
  obtain⟨a,aY,hm,zlW⟩: ∃a:Nat,nT (fun i=>cf .gtr (ws.getD i (aw .aX)).cq name) ws.length 0=(a:Int)∧hL ws name=((a:Int),false)∧a≤ws.length:=by
   rw[zbD,zR,aa]
   cases ae:bH (fun i=>cf .gtr (ws.getD i (aw .aX)).cq name) ws.length with
   |some j=>exact⟨j,rfl,rfl,Nat.le_of_lt (gp ae).1⟩
   |none=>exact⟨ws.length,rfl,rfl,Nat.le_refl _⟩
  rw[hm,aY];dsimp only[Sum.elim_inr,Option.isSome_none]
  rw[toNat_cast,toNat_cast,zbG (l:=ws) (a:=a) (v:=⟨name,w⟩) (fun j af b9 o=>by
   have e:((j:Int)==(a:Int))=false:=by rw[beq_eq_false_iff_ne];omega
   simp only[toNat_cast,hZ,Bool.not_false,Bool.true_and,Bool.false_and,cond_false,e];rfl) (fun _ o=>by
   have e:((a:Int)==(a:Int))=true:=beq_self_eq_true _
   simp only[toNat_cast,hZ,Bool.not_false,Bool.true_and,Bool.false_and,cond_false,e,cond_true]
   rfl)]
  dsimp only[Sum.elim_inr]
  by_cases c:a<ws.length
  ·have e:((a:Int)==(ws.length:Int))=false:=by rw[beq_eq_false_iff_ne];omega
   rw[decide_eq_true c,e];rfl
  ·have e:a=ws.length:=by omega
   subst e;rw[decide_eq_false c,beq_self_eq_true];rw[List.take_length,List.drop_length,List.append_nil];rfl
theorem zbI{ws:List aX}(aq:ws.length≤1000000)(name:ByteArray)(w:cv):Ir ws name w:=by
 refine⟨fun d=> -1≤d.2.2∧d.2.2<(ws.length:Int),fun d=>(d.2.2+1).toNat,?_,?_,?_⟩
 ·dsimp only
  rw[hD (by omega) (by omega)]
  omega
 ·dsimp only
  rw[hD (by omega) (by omega)]
  have:(1000002:Nat)<dk:=by decide
  omega
 ·intro d hd
  obtain⟨d1,d2⟩:=hd;refine⟨fun h=>?_,fun _=>?_⟩
  ·have h:=of_decide_eq_true h
   rw[hD (by omega) (by omega)]
   have J: ∀(x:Int) (y:Bool),(-1≤d.2.2-1∧d.2.2-1<(ws.length:Int))∧(d.2.2-1+1).toNat<(d.2.2+1).toNat:=fun _ _=>by omega
   exact⟨⟨h,d2⟩,fun _=>⟨⟨h,d2⟩,fun _=>J 0 true,fun _=>J 0 true⟩,fun _=>⟨⟨h,d2⟩,fun _=>J 0 true,fun _=>J 0 true⟩⟩
  ·have A: ∀{n:Nat},n≤2*ws.length+2→n≤maxLen∧n*32≤140737488355328:=fun {n} hn=>by
    have:(2000002:Nat)≤maxLen:=by decide
    omega
   refine⟨fun i c=>c.2.length≤2*i,Nat.zero_le _,fun i c hi hc=>?_,fun c hc=>?_⟩
   ·rw[toNat_cast]at hi
    refine⟨fun _=>⟨A ?_,⟨fun _=>⟨A ?_,?_⟩,fun _=>⟨A ?_,?_⟩⟩⟩,fun _=>⟨fun _=>⟨A ?_,?_⟩,fun _=>⟨A ?_,?_⟩⟩⟩<;>simp only[List.append_eq,List.length_append,List.length_cons,List.length_nil]<;>omega
   ·rw[toNat_cast]at hc
    intro _;refine A ?_
    simp only[List.length_cons,List.length_nil];omega
end Go.aN
