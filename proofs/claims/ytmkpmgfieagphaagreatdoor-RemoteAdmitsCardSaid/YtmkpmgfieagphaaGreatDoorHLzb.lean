/- Can is the reference's: the table of members. Conditions: none. -/
import Derived.Test.YtmkpmgfieagphaaGreatDoorHLza
namespace Go.aN
open Go Go.eg
def lJ(l:List br)(x:ByteArray):Nat→Bool:=fun i=>decide ((l.getD i (aw .br)).name=x)
theorem Iu(l:List br)(x:ByteArray):qa l x=match bH (lJ l x) l.length with|some i=>(i:Int)|none=> -1:=by
 unfold qa
 dsimp only
 rw[toNat_cast]
 exact fj (p:=lJ l x) (F:=fun i=>(i:Int)) (fun i u=>by rw[toNat_cast,hZ];rfl)
theorem zbP(l:List br)(x:ByteArray):Ae l x=match bH (lJ l x) l.length with|some i=>(l.getD i (aw .br),true)|none=>(⟨⟨#[]⟩,0,[],[],false⟩,false):=by
 unfold Ae
 dsimp only
 rw[toNat_cast]
 exact fj (p:=lJ l x) (F:=fun i=>(l.getD i (aw .br),true)) (fun i u=>by rw[toNat_cast,hZ];rfl)
def Af(h:Home)(x:ByteArray):Nat→Bool:=fun i=>decide ((h.a8.getD i (aw .bA)).room=x)
theorem zbQ(h:Home)(x:ByteArray):Ag h x=(bH (Af h x) h.a8.length).isSome:=by
 unfold Ag
 dsimp only
 rw[toNat_cast,fj (p:=Af h x) (F:=fun _=>true) (fun i u=>by rw[toNat_cast,hZ];rfl)]
 all_goals cases bH (Af h x) h.a8.length<;>rfl
theorem zbR(l:List df):Ah l=uH l:=by
 unfold Ah uH
 exact congrArg (cond _ _) (el (fun _ _ _=>rfl) fun _=>rfl)
def sM(h:Home)(l:List br)(k:Nat):Int→Int:=fun z=>bif !valid (l.getD k (aw .br)).name then 10 else bif(bH (lJ l (l.getD k (aw .br)).name) k).isSome then 9 else z
theorem Iv(h:Home){l:List br}{k:Nat}(aj:k<l.length):m2 h l (k:Int)=sM h l k (m3 h (l.getD k (aw .br))):=by
 unfold m2 sM m3
 simp only[toNat_cast,sz,q5,zbR,pZ,List.length_take,Nat.min_eq_left (Nat.le_of_lt aj),zbQ]
 refine congrArg (cond _ _) ?_
 generalize l.getD k (aw .br)=m
 have hf:bH (lJ (l.take k) m.name) k=bH (lJ l m.name) k:=ui fun j af=>by
  unfold lJ;rw[getD_take af]
 rw[fj (p:=lJ (l.take k) m.name) (F:=fun _=>(9:Int)) (fun i u=>by
  rw[hZ,decide_eq_true (show(i:Int)≥0 by omega)]
  rfl),hf]
 cases bH (lJ l m.name) k with
 |some i=>rfl
 |none=>
  dsimp only;rw[decide_eq_false (show ¬(-1:Int)≥0 by omega),cond_false,Option.isSome_none,cond_false]
  refine congrArg (cond _ _) ?_
  cases aT:(uH m.gA != 0)with
  |true=>rfl
  |false=>
   simp only[cond_false];refine congrArg (cond _ _) (congrArg (cond _ _) (el (fun i _ hi=>?_) fun _=>rfl))
   refine congrArg (cond _ _) ?_
   rw[fj (p:=Af h (m.dj.getD i (aw .str))) (F:=fun _=>(.bh ():Step Int Unit)) (fun j u=>by
    rw[hZ,decide_eq_true (show(j:Int)≥0 by omega)]
    rfl)]
   cases bH (Af h (m.dj.getD i (aw .str))) h.a8.length<;>rfl
theorem zbS{e:Nat→Int}{r:Nat→Bool}{b:Nat→Bool→Step Int Bool}(ad: ∀i c,b i c=bif(e i != 0)then .ret (e i)else .bh (c||r i)):
 ∀(n k:Nat) (c:Bool),bm b k n c=match(List.range' k n).find? (fun i=>e i != 0)with|some i=>.inl (e i)|none=>.inr (c||((List.range' k n).find? r).isSome):=by
 intro n
 induction n with
 |zero=>intro k c;rw[bm];simp
 |succ n aZ=>
  intro k c;rw[bm,ad,List.range'_succ,List.find?_cons,List.find?_cons]
  cases aT:(e k != 0)with
  |true=>rfl
  |false=>
   dsimp only[cond_false];rw[aZ]
   cases (List.range' (k+1) n).find? (fun i=>e i != 0)with
   |some i=>rfl
   |none=>
    dsimp only;rw[Bool.or_assoc]
    cases r k<;>rfl
def Ai(l:List br):Nat→Bool:=fun i=>(l.getD i (aw .br)).role==4
theorem RN(h:Home)(l:List br):sN h l=bif(fc h != 0)then fc h else bif((decide ((List.length l:Int)<1))||(decide ((List.length l:Int)>16)))then 3 else
 match bH (fun i=>m2 h l (i:Int) != 0) l.length with
 |some i=>m2 h l (i:Int)
 |none=>bif !(bH (Ai l) l.length).isSome then 8 else 0:=by
 unfold sN
 dsimp only
 refine congrArg (cond _ _) (congrArg (cond _ _) ?_)
 rw[toNat_cast,fj (p:=fun i=>m2 h l (i:Int) != 0) (F:=fun i=>m2 h l (i:Int)) (fun _ _=>rfl),fj (p:=Ai l) (F:=fun _=>0) (fun i u=>by
  rw[toNat_cast,decide_eq_true (show(i:Int)≥0 by omega)]
  rfl)]
 cases bH (fun i=>m2 h l (i:Int) != 0) l.length with
 |some i=>rfl
 |none=>cases bH (Ai l) l.length<;>rfl
theorem zbT(h:Home)(l:List br):uI h l=sN h l:=by
 rw[RN]
 unfold uI
 rw[sE]
 dsimp only
 refine congrArg (cond _ _) (congrArg (cond _ _) ?_)
 rw[toNat_cast]
 have hc:=ui (q:=fun i=>m2 h l (i:Int) != 0) (q':=fun i=>sM h l i (m3 h (l.getD i (aw .br))) != 0) (n:=l.length) fun j af=>by rw[Iv h af]
 refine(el (b':=fun i c=>bif(sM h l i (m3 h (l.getD i (aw .br))) != 0)then .ret (sM h l i (m3 h (l.getD i (aw .br))))else .bh (c||Ai l i)) (fun i c hi=>?_) (fun _=>rfl)).trans ?_
 ·rw[toNat_cast,q5,Iu,pZ,List.length_take,Nat.min_eq_left (Nat.le_of_lt hi),ui (q':=lJ l (l.getD i (aw .br)).name) fun j af=>by
   unfold lJ
   rw[getD_take af]]
  unfold sM Ai;generalize l.getD i (aw .br)=m
  cases valid m.name with
  |false=>rfl
  |true=>
   cases bH (lJ l m.name) i with
   |some j=>
    dsimp only;rw[decide_eq_true (show(j:Int)≥0 by omega)]
    rfl
   |none=>rfl
 ·rw[zbS (fun _ _=>rfl),hc,←List.range_eq_range']
  unfold bH
  cases hf:(List.range l.length).find? (fun i=>sM h l i (m3 h (l.getD i (aw .br))) != 0)with
  |some i=>
   have hi:=(gp (q:=fun i=>sM h l i (m3 h (l.getD i (aw .br))) != 0) hf).1
   dsimp only[Sum.elim_inl];rw[Iv h hi]
  |none=>
   dsimp only[Sum.elim_inr];rw[Bool.false_or]
theorem zbU{h:Home}{l:List br}(aJ:sN h l=0){k:Nat}(aj:k<l.length):1≤(l.getD k (aw .br)).role∧(l.getD k (aw .br)).role≤4:=by
 rw[RN]at aJ
 obtain⟨_,aJ⟩:=uq aJ
 obtain⟨_,aJ⟩:=jJ (by decide) aJ
 cases hf:bH (fun i=>m2 h l (i:Int) != 0) l.length with
 |some i=>
  rw[hf]at aJ
  have:=(gp hf).2.1
  rw[show m2 h l (i:Int)=0 from aJ]at this
  cases this
 |none=>
  have:=jc (me hf k aj)
  rw[Iv h aj]at this
  have:=(jJ (by decide) (jJ (by decide) this).2).2
  unfold m3 at this
  have:=(jJ (by decide) this).1
  simp only[Bool.or_eq_false_iff,decide_eq_false_iff_not]at this;omega
theorem zbV(h:Home)(l:List br)(x:ByteArray)(n:Int)(q:bQ):uJ h l x n q=oV h l x n q:=by
 unfold uJ oV
 rw[zbT]
 dsimp only
 cases aT:(sN h l != 0)with
 |true=>rfl
 |false=>
  have aJ:=jc aT
  rw[cond_false,cond_false,Iu,zbP]
  cases hf:bH (lJ l x) l.length with
  |none=>rfl
  |some i=>
   obtain⟨a,b⟩:=zbU aJ (gp hf).1;dsimp only;rw[decide_eq_false (show ¬(i:Int)<0 by omega),cond_false,Bool.not_true,cond_false,zbO _ _ _ _ ⟨a,b⟩,toNat_cast]
   generalize l.getD i (aw .br)=m at a b;unfold Is;refine congrArg (cond _ _) ?_
   rw[zbL,zbK]
   have aq: ∀c:Int,decide (m.role-1<c-1)=decide (m.role<c):=fun c=>decide_eq_decide.2 ⟨fun h=>by omega,fun h=>by omega⟩
   have aB:decide (m.role<1)=false:=decide_eq_false (by omega)
   have h0:decide (m.role-1<0)=false:=decide_eq_false (by omega)
   have nR:decide (m.role-1<1)=decide (m.role<2):=aq 2
   have re:decide (m.role-1<2)=decide (m.role<3):=aq 3
   have zQ:decide (m.role-1<3)=decide (m.role<4):=aq 4
   have body:uG h m q (p8 h q&&decide (m.role<3)) (m.role-1)=
    (bif q.kind==2||q.kind==3 then
     (bif decide (hl h q.key.dev<0)then 8 else bif !!(decide ((m.dj.length:Int)>0)&& !(hM m.dj (jf h q.key.dev)))then 16 else bif p8 h q then(bif decide (m.role<3)then 16 else 0)else(bif decide (m.role<1)then 16 else 0))
     else(bif q.kind==4 then(bif decide (m.role<2)then 16 else 0)else bif q.kind==5 then(bif decide (m.role<3)then 16 else 0)else bif q.kind==6 then(bif q.kind==6 then(bif decide (m.role<4)then 16 else 0)else(bif decide (m.role<1)then 16 else 0))else(bif q.kind==7 then(bif decide (m.role<4)then 16 else 0)else(bif decide (m.role<1)then 16 else 0)))):=by
    rw[DD];unfold uG rj lvl
    cases q.kind==2||q.kind==3 with
    |true=>
     cases bH (m1 h q.key.dev) h.a8.length with
     |none=>rfl
     |some j=>
      dsimp only[cond_true];rw[decide_eq_false (show ¬(j:Int)<0 by omega),aB,Bool.not_not]
      cases p8 h q<;>rfl
    |false=>
     rw[cond_false,cond_false,←nR,←re,←zQ,aB]
     cases q.kind==4<;>cases q.kind==5<;>cases q.kind==6<;>cases q.kind==7<;>first|rfl|(show(bif decide (m.role-1<0)then(16:Int)else 0)=_;rw[h0];rfl)
   rw[body]
   cases m.role==1<;>cases decide (n<0)<;>cases uF m.gA n<;>cases q.kind==2<;>cases q.kind==3<;>rfl
end Go.aN
