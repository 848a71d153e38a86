/- Can is the reference's: the members; what a member may ask. Conditions: none. -/
import Derived.Test.YtmkpmgfieagphaaGreatDoorHLz
namespace Go.aN
open Go Go.eg
def m1(h:Home)(x:Int):Nat→Bool:=fun i=>(h.a8.getD i (aw .bA)).id==x
theorem DD(h:Home)(x:Int):hl h x=match bH (m1 h x) h.a8.length with|some i=>(i:Int)|none=> -1:=HQ h x
theorem RI(h:Home)(x:Int):lG h x=bif(fc h != 0)then(⟨0,0,0,false,0,⟨#[]⟩,[]⟩,false)else match bH (m1 h x) h.a8.length with|some i=>(h.a8.getD i (aw .bA),true)|none=>(⟨0,0,0,false,0,⟨#[]⟩,[]⟩,false):=zF h x
theorem zbJ(h:Home)(x:Int):Aa h x=jf h x:=by
 unfold Aa jf
 rw[RI,sE,DD]
 cases hf:bH (m1 h x) h.a8.length with
 |none=>cases (fc h != 0)<;>rfl
 |some i=>
  dsimp only;rw[decide_eq_false (show ¬((i:Int)<0)by omega),cond_false,Bool.false_or,toNat_cast]
  cases (fc h != 0)<;>rfl
theorem RJ{l:List ByteArray}{j:Nat}(h:j<l.length):decide (lF l (l.getD j (aw .str))<0)=false:=by
 have aa:hM l (l.getD j (aw .str))=true:=by
  rw[Hy];exact Rj h (decide_eq_true rfl)
 rw[HU]at aa
 cases hd:decide (lF l (l.getD j (aw .str))<0)with
 |false=>rfl
 |true=>rw[hd]at aa;cases aa
theorem keys_eq(h:Home)(x:Int):Ab h x=mj h x:=by
 unfold Ab mj
 rw[RI,sE,DD]
 cases aT:(fc h != 0)with
 |true=>rfl
 |false=>
  have aJ:=jc aT
  cases hf:bH (m1 h x) h.a8.length with
  |none=>rfl
  |some i=>
   have hi:=(gp hf).1
   dsimp only;rw[decide_eq_false (show ¬((i:Int)<0)by omega),Bool.false_or,cond_false,cond_false,toNat_cast,toNat_cast]
   refine el (fun j a af=>?_) (fun _=>rfl)
   rw[toNat_cast];obtain⟨c,hc⟩:=zI aJ hi (RJ af)
   have hn:(h.bq.getD c (aw .aO)).name=(h.a8.getD i (aw .bA)).bq.getD j (aw .str):=of_decide_eq_true (gp hc).2.1
   rw[look_eq (zE (sG aJ)),sC,hc];simp only[Option.map_some,Option.getD_some,toNat_cast,hn]
theorem RK(h:Home)(k:cd):w0 h k=ri h k:=by
 unfold w0 ri
 rw[find_eq]
theorem zbK(h:Home)(q:bQ):DE h q=p8 h q:=by
 unfold DE p8
 cases aj:q.kind==2 with
 |true=>
  rw[cond_true,cond_true,RK]
 |false=>
  rw[cond_false,cond_false,keys_eq];simp only[RK,toNat_cast]
  rw[fj (p:=fun i=>cf .eql ((mj h q.key.dev).getD i (aw .cd)).cK q.key.cK&&ri h ((mj h q.key.dev).getD i (aw .cd))) (F:=fun _=>true) (fun i u=>by
   cases cf .eql ((mj h q.key.dev).getD i (aw .cd)).cK q.key.cK<;>rfl)]
  rw[fj (p:=fun i=>cf .eql ((mj h q.key.dev).getD i (aw .cd)).cK q.key.cK&&ri h ((mj h q.key.dev).getD i (aw .cd))) (F:=fun _=>true) (fun i u=>by
   rw[decide_eq_true (show(i:Int)≥0 by omega)]
   cases cf .eql ((mj h q.key.dev).getD i (aw .cd)).cK q.key.cK<;>rfl)]
  cases bH (fun i=>cf .eql ((mj h q.key.dev).getD i (aw .cd)).cK q.key.cK&&ri h ((mj h q.key.dev).getD i (aw .cd))) (mj h q.key.dev).length<;>rfl
theorem zbL(h:Home)(m:br)(x:Int):w1 h m x= !(decide ((m.dj.length:Int)>0)&& !(hM m.dj (jf h x))):=by
 unfold w1
 rw[Hy]
 dsimp only
 rw[toNat_cast,fj (p:=fun i=>decide (jf h x=m.dj.getD i (aw .str))) (F:=fun _=>true) (fun i u=>by
  rw[toNat_cast,zbJ,hZ,show decide (m.dj.getD i (aw .str)=jf h x)=decide (jf h x=m.dj.getD i (aw .str))from decide_eq_decide.2 ⟨Eq.symm,Eq.symm⟩])]
 cases hf:bH (fun i=>decide (jf h x=m.dj.getD i (aw .str))) m.dj.length with
 |some i=>
  dsimp only[Option.isSome_some];rw[Bool.not_true,Bool.and_false];rfl
 |none=>
  dsimp only[Option.isSome_none];rw[Bool.not_false,Bool.and_true]
  by_cases aq:(m.dj.length:Int)>0
  ·rw[decide_eq_true aq,show((m.dj.length:Int)==0)=false from beq_eq_false_iff_ne.2 (by omega)]
   rfl
  ·rw[decide_eq_false aq,show(m.dj.length:Int)=0 by omega]
   rfl
def p9(n:Int):Int:=bif decide (bn .rem .i64 n (10080:Int)<0)then IntKind.wrap .i64 (bn .rem .i64 n (10080:Int)+(10080:Int))else bn .rem .i64 n (10080:Int)
theorem zbM(n:Int):DF n=p9 n:=by
 unfold DF p9
 dsimp only
noncomputable def w2(l:List df)(n:Int):Nat→Bool:=fun i=>((uE (l.getD i (aw .df)))&&(decide ((l.getD i (aw .df)).from_≤p9 n)))&&(decide (p9 n<(l.getD i (aw .df)).oX))
theorem zbN(l:List df)(n:Int):uF l n=(bH (w2 l n) l.length).isSome:=by
 unfold uF
 dsimp only
 rw[zbM,toNat_cast,fj (p:=w2 l n) (F:=fun _=>true) (fun i u=>by simp only[toNat_cast]<;>rfl)]
 cases bH (w2 l n) l.length<;>rfl
def lvl(q:bQ):Int:=bif q.kind==4 then 1 else bif q.kind==5 then 2 else bif(q.kind==6||q.kind==7)then 3 else 0
noncomputable def rj(h:Home)(m:br)(q:bQ)(s:Bool):Int:=match bH (m1 h q.key.dev) h.a8.length with
 |none=>8
 |some _=>bif(decide ((m.dj.length:Int)>0)&& !(hM m.dj (jf h q.key.dev)))then 16 else bif s then 16 else 0
noncomputable def uG(h:Home)(m:br)(q:bQ)(s:Bool)(r:Int):Int:=bif(q.kind==2||q.kind==3)then rj h m q s else bif decide (r<lvl q)then 16 else 0
noncomputable def Is(h:Home)(m:br)(n:Int)(q:bQ):Int:=bif((decide (q.kind<1))||(decide (q.kind>7)))then 7 else
 bif m.role==1&&(decide (n<0)|| !(uF m.gA n))then 17 else uG h m q (p8 h q&&decide (m.role<3)) (m.role-1)
theorem Ac{h:Home}{x:Int}{F:Nat→Int}{g:Unit→Int}:Sum.elim (fun r=>r) g (bm (fun(i:Nat) (_:Unit)=>bif((List.getD h.a8 i (aw .bA)).id==x)then(.ret (F i):Step Int Unit)else .bh ()) 0 h.a8.length ())=match bH (m1 h x) h.a8.length with|some i=>F i|none=>g ():=fj (fun _ _=>rfl)
theorem RL{l:List df}{n:Int}{F:Nat→Int}{g:Unit→Int}:Sum.elim (fun r=>r) g (bm (fun(i:Nat) (_:Unit)=>bif(((uE (List.getD l i (aw .df)))&&(decide ((List.getD l i (aw .df)).from_≤p9 n)))&&(decide (p9 n<(List.getD l i (aw .df)).oX)))then(.ret (F i):Step Int Unit)else .bh ()) 0 l.length ())=match bH (w2 l n) l.length with|some i=>F i|none=>g ():=fj (fun _ _=>rfl)
theorem It{h:Home}{m:br}{q:bQ}(s:Bool)(r:Int){X Y:Int}(gK:X=rj h m q s)(lI:Y=(bif decide (r<lvl q)then 16 else 0)):(bif q.kind==2 then X else bif q.kind==3 then X else Y)=uG h m q s r:=by
 unfold uG
 rw[gK,lI]
 cases q.kind==2<;>cases q.kind==3<;>rfl
theorem RM{h:Home}{m:br}{q:bQ}(s:Bool)(r:Int){X Y:Int}(gK:X=rj h m q s)(lI:Y=(bif decide (r<lvl q)then 16 else 0)):(bif q.kind==2 then(bif q.kind==2 then X else Y)else bif q.kind==3 then X else Y)=uG h m q s r:=by
 unfold uG
 rw[gK,lI]
 cases q.kind==2<;>cases q.kind==3<;>rfl
theorem Ad(q:bQ)(r:Int)(aJ:decide (r<0)=false):(bif q.kind==4 then(bif decide (r<1)then(16:Int)else 0)else bif q.kind==5 then(bif decide (r<2)then(16:Int)else 0)else bif q.kind==6 then(bif q.kind==6 then(bif decide (r<3)then(16:Int)else 0)else(bif decide (r<0)then(16:Int)else 0))else(bif q.kind==7 then(bif decide (r<3)then(16:Int)else 0)else(bif decide (r<0)then(16:Int)else 0)))=(bif decide (r<lvl q)then 16 else 0):=by
 unfold lvl
 cases q.kind==4<;>cases q.kind==5<;>cases q.kind==6<;>cases q.kind==7<;>rfl
theorem zbO(h:Home)(m:br)(n:Int)(q:bQ)(ag:1≤m.role∧m.role≤4):DG h m n q=Is h m n q:=by
 obtain⟨name,role,gA,dj,home⟩:=m
 have ag:1≤role∧role≤4:=ag
 have ag:role=1∨role=2∨role=3∨role=4:=by omega
 unfold DG Is
 refine congrArg (cond _ _) ?_
 rcases ag with rfl|rfl|rfl|rfl
 ·simp only[toNat_cast,cond_true,cond_false,show((1:Int)==1)=true from rfl,Bool.true_and,show decide ((1:Int)<3)=true from rfl,Bool.and_true]
  rw[zbN]
  by_cases hn:n≥0
  ·rw[decide_eq_true hn,decide_eq_false (show ¬n<0 by omega)]
   simp only[cond_true]
   cases hd:decide (bn .rem .i64 n (10080:Int)<0)with
   |true=>
    have hw:p9 n=IntKind.wrap .i64 (bn .rem .i64 n (10080:Int)+(10080:Int)):=by
     unfold p9;rw[hd];rfl
    rw[cond_true,←hw,RL]
    cases bH (w2 gA n) gA.length with
    |none=>rfl
    |some k=>
     simp only[Bool.not_true,cond_false,Option.isSome_some,Bool.and_false,Bool.false_or];refine RM _ _ ?_ (Ad q 0 rfl)
     rw[Ac];unfold rj
     cases bH (m1 h q.key.dev) h.a8.length with
     |none=>rfl
     |some i=>
      dsimp only;rw[decide_eq_true (show(i:Int)≥0 by omega)]
      cases decide ((dj.length:Int)>0)<;>rfl
   |false=>
    have hw:p9 n=bn .rem .i64 n (10080:Int):=by
     unfold p9;rw[hd];rfl
    rw[cond_false,←hw,RL]
    cases bH (w2 gA n) gA.length with
    |none=>rfl
    |some k=>
     simp only[Bool.not_true,cond_false,Option.isSome_some,Bool.and_false,Bool.false_or];refine RM _ _ ?_ (Ad q 0 rfl)
     rw[Ac];unfold rj
     cases bH (m1 h q.key.dev) h.a8.length with
     |none=>rfl
     |some i=>
      dsimp only;rw[decide_eq_true (show(i:Int)≥0 by omega)]
      cases decide ((dj.length:Int)>0)<;>rfl
  ·rw[decide_eq_false hn,decide_eq_true (show n<0 by omega)]
   rfl
 ·simp only[toNat_cast,cond_true,cond_false,show((2:Int)==1)=false from rfl,show((2:Int)==2)=true from rfl,Bool.false_and,show decide ((2:Int)<3)=true from rfl,Bool.and_true,Bool.not_true]
  refine It _ _ ?_ (Ad q 1 rfl)
  rw[Ac];unfold rj
  cases bH (m1 h q.key.dev) h.a8.length with
  |none=>rfl
  |some i=>
   dsimp only;rw[decide_eq_true (show(i:Int)≥0 by omega)]
   cases decide ((dj.length:Int)>0)<;>rfl
 ·simp only[toNat_cast,cond_true,cond_false,show((3:Int)==1)=false from rfl,show((3:Int)==2)=false from rfl,show((3:Int)==3)=true from rfl,Bool.false_and,show decide ((3:Int)<3)=false from rfl,Bool.and_false,Bool.not_true]
  refine It _ _ ?_ (Ad q 2 rfl)
  rw[Ac];unfold rj
  cases bH (m1 h q.key.dev) h.a8.length with
  |none=>rfl
  |some i=>
   dsimp only;rw[decide_eq_true (show(i:Int)≥0 by omega)]
   cases decide ((dj.length:Int)>0)<;>rfl
 ·simp only[toNat_cast,cond_true,cond_false,show((4:Int)==1)=false from rfl,show((4:Int)==2)=false from rfl,show((4:Int)==3)=false from rfl,Bool.false_and,show decide ((4:Int)<3)=false from rfl,Bool.and_false,Bool.not_true]
  refine It _ _ ?_ (Ad q 3 rfl)
  rw[Ac];unfold rj
  cases bH (m1 h q.key.dev) h.a8.length with
  |none=>rfl
  |some i=>
   dsimp only;rw[decide_eq_true (show(i:Int)≥0 by omega)]
   cases decide ((dj.length:Int)>0)<;>rfl
end Go.aN
