/- The AV calculus, part K: append, make, cuts of slices and strings, small builtins, conversions. Conditions: none. -/
import Derived.Test.YtmkpmgfieagphaaGreatDoorKSMj
import Derived.Maps.AppendAt
import Derived.Orders
import Derived.Laws.RangeString
import Derived.Laws.RangeAny
namespace Go.aK
open Go
def fw(σ:Heap)(n:Nat):aD→Option (List (List a1))
 | .av (.aN m es)=>if m=n then some es else none
 | .av (.v (.slice none 0 0))=>some []
 | .av (.li i l)=>if bY i=n then some (l.map (b9 i))else none
 | .aN id=>match aE σ id with
  |some (.row _ _ m es)=>if m=n then some es else none
  |_=>none
 |_=>none
section
variable {P:Program} {G:a7} {o:Oper} {s:aO}
theorem cQ.elems{w:World}{ro:Nat→Prop}{n:Nat}{es:List (List a1)}{c:Value}(h:cQ w ro (.aN n es) c):
 ∃b cap,c= .slice b es.length cap∧(∀e∈es,e.length=n)∧(b=none→es=[])∧∃f:Nat→Value,(∀a,b=some a→∀j,j<es.length*n→w.cell? (a.add j)=some (f j))∧∀j x,es.flatten[j]? =some x→cQ w ro x (f j):=by
 cases h with
 |aN _ _ b cap f aa ae au aP bE=>
  refine⟨b,cap,rfl,au,fun ad=>?_,f,fun a aZ j af=>?_,bE⟩
  ·rcases Nat.eq_zero_or_pos es.length with h|h
   ·exact List.eq_nil_of_length_eq_zero h
   ·obtain⟨a,aZ,_⟩:=aP h
    rw[ad]at aZ;cases aZ
  ·have ak:0<es.length:=by
    rcases Nat.eq_zero_or_pos es.length with h|h
    ·rw[h]at af;simp at af
    ·exact h
   obtain⟨bb,Kp,hc⟩:=aP ak;rw[aZ]at Kp;simp only[Option.some.injEq]at Kp;subst Kp;exact(hc j af).2
theorem w2{w:World}{ro:Nat→Prop}{σ:Heap}{β:Nat→Value}{N:Nat}(ba:hh w ro σ β N){x:aD}{c:Value}(h:br w ro σ β N x c){n:Nat}{es:List (List a1)}(he:fw σ n x=some es):
 ∃b cap,c= .slice b es.length cap∧(∀e∈es,e.length=n)∧(b=none→es=[])∧∃f:Nat→Value,(∀a,b=some a→∀j,j<es.length*n→w.cell? (a.add j)=some (f j))∧∀j x,es.flatten[j]? =some x→cQ w ro x (f j):=by
 cases h with
 |av x c hx=>
  cases x with
  |v y=>
   cases hx
   cases c with
   |slice a l h0=>
    cases a with
    |none=>
     cases l with
     |zero=>
      cases h0 with
      |zero=>
       simp[fw]at he;subst he;exact⟨none,0,rfl,by simp,fun _=>rfl,fun _=>undef,by simp,by simp⟩
      |succ=>simp[fw]at he
     |succ=>simp[fw]at he
    |some=>simp[fw]at he
   |_=>simp[fw]at he
  |ptr=>simp[fw]at he
  |mp=>simp[fw]at he
  |er=>simp[fw]at he
  |li i l=>
   simp only[fw]at he
   split at he
   ·rename_i hm
    subst hm;simp only[Option.some.injEq]at he;subst he
    cases hx with
    |li _ _ _ hx=>exact hx.elems
   ·cases he
  |aN m dP=>
   simp only[fw]at he
   split at he
   ·rename_i hm
    subst hm;simp only[Option.some.injEq]at he;subst he;exact hx.elems
   ·cases he
 |aN id c aq ak=>
  simp only[fw]at he
  split at he
  ·rename_i z t m dP ah
   split at he
   ·rename_i hm
    subst hm;simp only[Option.some.injEq]at he;subst he;rw[ak z t _ _ ah]
    have dg:=ba.c5 id _ ah
    cases dg with
    |row _ _ _ xs aa ae au=>
     rcases aa.2 with⟨⟨b,aw,_⟩,aR⟩|⟨g,cap,cur,aw,hc,zdA,hle,ie,dI,lI⟩
     ·have:dP=[]:=List.eq_nil_of_length_eq_zero aR
      subst this;rw[aw];exact⟨b,0,rfl,by simp,fun _=>rfl,fun _=>undef,by simp,by simp⟩
     ·rw[aw]
      refine⟨_,_,rfl,ae,by simp,fun j=>xs.getD j undef,fun a aZ j af=>?_,au⟩
      simp only[Option.some.injEq]at aZ;subst aZ;rw[addLit,Nat.zero_add,cell_of_row w g j cur t (0,0) zdA]
      have hx:xs[j]? =cur[j]? :=by rw[←lI,List.getElem?_take,if_pos af];simp
      have jK:j<xs.length:=by rw[aa.1];exact af
      rw[←hx];simp[List.getD,List.getElem?_eq_getElem jK]
    |ga _ _ _ aa=>exact aa.elems
   ·cases he
  ·cases he
 |_=>simp[fw]at he
theorem Dz{w:World}(t ty e:TypeId){i:TypeInfo}{z:Value}{n bytes:Nat}(aG:P.underlying t=some (.slice e))(hi:P.info? e=some i)(aR:i.zero=some z)(iw:i.size=n)(jr:i.bytes=bytes)(e9:z.cells.size=n)(hn:0<n)
 {v:Value}{len:Nat}{xs:List Value}(cY:ia w e n v len xs){b:Option Addr}{m cap:Nat}{news:List Value}(aq:news.length=m*n)(ad:b=none→m=0)(zdB: ∀a,b=some a→∀j u,news[j]? =some u→w.cell? (a.add j)=some u)
 (aa: ∀u∈news,u.oneCell'=true)(sU:len+m≤maxLen)(zY:(len+m)*bytes≤140737488355328):
 ∃bg w',(Builtin.append_ #[t,t] ty #[v,.slice b m cap]).run P w= .ok bg w'∧ia w' e n bg (len+m) (xs++news)∧w.grownBy w' (b2 v)∧(∀k,b2 bg=some k→b2 v=some k∨w.heap.size≤k):=by
 by_cases hm:m=0
 ·subst hm
  have rJ:news=[]:=List.eq_nil_of_length_eq_zero (by simpa using aq)
  subst rJ;refine⟨v,w,?_,by simpa using cY,World.grownBy.refl w _,fun k aj=>.inl aj⟩
  have DA:(Builtin.firstCells n 0 (.slice b 0 cap)).run P w= .ok #[] w:=by
   cases b with
   |none=>simp[Builtin.firstCells]
   |some a=>simp[Builtin.firstCells,loadCells,loadCellsFrom]
  rcases cY.2 with⟨⟨c,rfl,_⟩,rfl⟩|⟨g,h0,cur,rfl,_,_,hle,_⟩
  ·cases c<;>simp[Builtin.append_,run_underlying aG,sizeOf,typeInfo,hi,iw,Builtin.lenOf,DA,storeCells]
  ·simp[Builtin.append_,run_underlying aG,sizeOf,typeInfo,hi,iw,Builtin.lenOf,DA,storeCells,hle]
 ·cases b with
  |none=>exact absurd (ad rfl) hm
  |some a=>
   have eV:=zdB a rfl
   have own:w.ownsRow 0 e n v len xs→_:=fun hA=>run_append_own_at (P:=P) w 0 t ty e i z n bytes aG hi aR iw jr e9 hn v len xs hA a m cap news aq eV aa sU zY (Nat.zero_le _)
   have fin:w.ownsRow 0 e n v len xs→v.ownBlock=b2 v→∃bg w',(Builtin.append_ #[t,t] ty #[v,.slice (some a) m cap]).run P w= .ok bg w'∧ia w' e n bg (len+m) (xs++news)∧w.grownBy w' (b2 v)∧(∀k,b2 bg=some k→b2 v=some k∨w.heap.size≤k):=by
    intro hA bf;obtain⟨bg,w',g1,g2,g3,_,g5⟩:=own hA;refine⟨bg,w',g1,.Dy g2,bf ▸ g3,fun k aj=>?_⟩
    have eA:bg.ownBlock=some k:=by
     cases bg with
     |slice c l p=>
      cases c with
      |none=>simp[b2]at aj
      |some c=>
       simp only[b2]at aj
       split at aj
       ·cases aj
       ·simpa[Value.ownBlock]using aj
     |pointer c=>
      rcases g2.2 with⟨h,_⟩|⟨_,_,_,h,_⟩<;>cases h
     |map c=>
      rcases g2.2 with⟨h,_⟩|⟨_,_,_,h,_⟩<;>cases h
     |_=>simp[b2]at aj
    rcases g5 with h|h
    ·rw[h,bf]at eA;exact .inl eA
    ·rw[h]at eA;simp at eA;exact .inr (by omega)
   rcases cY.2 with⟨⟨c,rfl,_⟩,rfl⟩|⟨g,h0,cur,rfl,zZ,ah,hle,ie,dI,lI⟩
   ·have hx:xs=[]:=List.eq_nil_of_length_eq_zero (by simpa using cY.1)
    subst hx
    cases c with
    |none=>exact fin (World.ownsRow_nil w 0 e n) rfl
    |some c=>
     have cT:=run_append_grow (P:=P) w t ty e i z aG hi aR c 0 0 [] (by simp) (by simp) a m cap news (by rw[iw];exact aq) eV (by omega) (by simp only[maxLen]at sU;omega) (growslice_fits (by omega) (by rw[jr];exact zY))
     have hA:=World.ownsRow_made (e:=e) (size:=n) w.drew (news.toArray++Builtin.zeroCells z.cells (grownCap w (0+m) 0 e-(0+m))) (grownCap w (0+m) 0 e) (base:=0) (Nat.zero_le _) (grownCap_le_maxLen w (0+m) 0 e sU) (by
      have:=grownCap_ge w (0+m) 0 e
      simp only[Array.size_append,List.size_toArray,size_zeroCells,e9,aq,←Nat.add_mul]
      congr 1
      omega)
     refine⟨_,_,cT,?_,⟨rfl,rfl,rfl,by simp,fun k aj _=>Go.RowKit.Below.heap_alloc w.drew _ k aj⟩,fun k aj=>?_⟩
     ·have hW:=grownCap_ge w (0+m) 0 e
      refine⟨by simp[aq],.inr ⟨w.heap.size,grownCap w (0+m) 0 e,_,rfl,by omega,heap_alloc_new w.drew _,hW,grownCap_le_maxLen w (0+m) 0 e sU,?_,?_⟩⟩
      ·simp only[Array.size_append,List.size_toArray,size_zeroCells,e9,aq,←Nat.add_mul,List.length_nil,Nat.zero_add]at hW⊢
       congr 1
       omega
      ·simp only[Array.toList_append,List.nil_append,Nat.zero_add]
       rw[←aq];exact List.take_left
     ·simp only[b2]at aj
      split at aj
      ·cases aj
      ·simp at aj;exact .inr (by omega)
   ·exact fin ⟨cY.1,.inr ⟨g,h0,cur,rfl,Nat.zero_le _,ah,hle,ie,dI,lI⟩⟩ (by simp[Value.ownBlock,b2,Nat.ne_of_gt zZ])
def qp(P:Program)(t:TypeId):Option (Nat × Nat × Nat):=
 match P.underlying t with
 |some (.slice e)=>match P.info? e with
  |some i=>match i.zero with
   |some z=>if z.cells.size=i.size∧0<i.size then some (e,i.size,i.bytes)else none
   |none=>none
  |none=>none
 |_=>none
theorem qc{t e n bytes:Nat}(h:qp P t=some (e,n,bytes)): ∃i z,P.underlying t=some (.slice e)∧P.info? e=some i∧i.zero=some z∧i.size=n∧i.bytes=bytes∧z.cells.size=n∧0<n:=by
 unfold qp at h
 split at h
 ·rename_i ay hu
  split at h
  ·rename_i i hi
   split at h
   ·rename_i z aR
    split at h
    ·rename_i hc
     simp only[Option.some.injEq,Prod.mk.injEq]at h;obtain⟨rfl,rfl,rfl⟩:=h;exact⟨i,z,hu,hi,aR,rfl,rfl,hc.1,hc.2⟩
    ·cases h
   ·cases h
  ·cases h
 ·cases h
theorem z1{w:World}{ro:Nat→Prop}{n:Nat}{es:List (List a1)}(hn: ∀e∈es,e.length=n){f:Nat→Value}(hf: ∀j x,es.flatten[j]? =some x→cQ w ro x (f j)):
 ((List.range (es.length*n)).map f).length=es.length*n∧(∀u∈(List.range (es.length*n)).map f,u.oneCell'=true)∧∀j x,es.flatten[j]? =some x→cQ w ro x (((List.range (es.length*n)).map f).getD j undef):=by
 refine⟨by simp,fun u hu=>?_,fun j x af=>?_⟩
 ·rw[List.mem_map]at hu
  obtain⟨j,af,rfl⟩:=hu;rw[List.mem_range]at af
  have aq:=j2 hn
  exact(hf j (es.flatten[j]'(by omega)) (by simp)).one
 ·have aq:=j2 hn
  have cL:=(List.getElem?_eq_some_iff.1 af).1
  have:j<es.length*n:=by omega
  simpa[List.getD,this]using hf j x af
theorem w3{w:World}{ro:Nat→Prop}{n:Nat}{es fs:List (List a1)}(hn: ∀e∈es,e.length=n){xs ys:List Value}(hx:xs.length=es.length*n)(aa: ∀j x,es.flatten[j]? =some x→cQ w ro x (xs.getD j undef))
 (ae: ∀j x,fs.flatten[j]? =some x→cQ w ro x (ys.getD j undef)): ∀j x,(es++fs).flatten[j]? =some x→cQ w ro x ((xs++ys).getD j undef):=by
 intro j x af
 rw[List.flatten_append]at af
 have aq:=j2 hn
 by_cases h:j<es.flatten.length
 ·rw[List.getElem?_append_left h]at af
  have:=aa j x af
  rw[List.getD,List.getElem?_append_left (by omega)]
  exact this
 ·rw[List.getElem?_append_right (by omega)]at af
  have:=ae _ x af
  rw[List.getD,List.getElem?_append_right (by omega),hx,←aq]
  exact this
theorem zdC(x y:Operand)(t:TypeId)(an:o.op= .call {callee:=.builtin .append,args:=#[x,y],argTypes:=#[t,t]}){e n bytes:Nat}(aG:qp P t=some (e,n,bytes))
 {id:Nat}(hx:aI G s x= .aN id){es:List (List a1)}(bc:aE s.heap id=some (.row false e n es))(ad:s.base≤id)(bG:id<s.next)
 {fs:List (List a1)}(ax:fw s.heap n (aI G s y)=some fs)(bM:es.length+fs.length≤maxLen∧(es.length+fs.length)*bytes≤140737488355328):
 dQ P G o s (aO.put ⟨ef id s.cR,(id,.row false e n (es++fs))::du id s.heap,s.next,s.base⟩ o.dst (.aN id)):=by
 intro E a w ⟨β,ro,ag⟩ K Q hK
 obtain⟨i,z,hu,hi,aR,iw,jr,e9,hn⟩:=qc aG
 obtain⟨b,cap,hc,mq,o6,f,h4,o7⟩:=w2 ag.heap (ag.eval y) ax
 have dg:=ag.heap.c5 id _ bc
 cases dg with
 |row _ _ _ xs cY b3 eV=>
  have lM:a.eval x=β id:=by
   have h:=ag.eval x
   rw[hx]at h;generalize a.eval x=c at h
   cases h with
   |aN _ _ _ ak=>exact ak _ _ _ _ bc
  obtain⟨nY,o8,rK⟩:=z1 mq o7
  obtain⟨bg,w',cq,kH,cT,bf⟩:=Dz (P:=P) t o.type e hu hi aR iw jr e9 hn cY (b:=b) (m:=fs.length) (cap:=cap) nY (fun ad=>by rw[o6 ad];rfl)
   (fun bb aZ j u af=>by
    have cL:=(List.getElem?_eq_some_iff.1 af).1
    rw[nY]at cL
    have aa:=h4 bb aZ j cL
    simp[cL]at af
    rw[aa,af]) o8 bM.1 bM.2
  unfold Oper.wp;simp only[execOp,an,resolve,invoke,builtin,Sem.run_bind,Sem.run_pure,Result.andThen_ok,List.map_toArray,List.map_cons,List.map_nil,lM,hc,cq]
  have jm: ∀k,k<w.heap.size→b2 (β id)≠some k→w'.heap[k]? =w.heap[k]? :=fun k aj b3=>cT.block k aj (fun e=>b3 e.symm)
  have cb: ∀k,ro k→w'.heap[k]? =w.heap[k]? :=fun k aj=>jm k (ag.heap.lt k aj) fun bf=>ag.heap.fg k aj ⟨id,_,bc,rfl,bf⟩
  refine hK _ _ ⟨gV β id bg,ro,c2.put (ag.renew (w':=w') id ad bG bc (.row false e n (es++fs)) bg cT.os cT.tape cT.output cT.size jm bf rfl ?_) o.dst _ _ ?_⟩
  ·refine .row e n _ _ (by rw[dR,List.length_append];exact kH) (fun ay j3=>?_) (fun j x af=>?_)
   ·rw[List.mem_append]at j3
    rcases j3 with h|h
    ·exact b3 _ h
    ·exact mq _ h
   ·exact(w3 b3 cY.1 eV rK j x af).keep cb fun _ h=>h
  ·exact .aN _ _ bG fun z bC cI dP _=>(dR _ _ _).symm
theorem zdD(x y:Operand)(t:TypeId)(an:o.op= .call {callee:=.builtin .append,args:=#[x,y],argTypes:=#[t,t]}){e n bytes:Nat}(aG:qp P t=some (e,n,bytes))
 (hx:aI G s x= .av (.v (.slice none 0 0)))(ad:s.base≤s.next)
 {fs:List (List a1)}(ax:fw s.heap n (aI G s y)=some fs)(bM:fs.length≤maxLen∧fs.length*bytes≤140737488355328):
 dQ P G o s ({s with heap:=(s.next,.row false e n fs)::s.heap,next:=s.next+1}.put o.dst (.aN s.next)):=by
 intro E a w ⟨β,ro,ag⟩ K Q hK
 obtain⟨i,z,hu,hi,aR,iw,jr,e9,hn⟩:=qc aG
 obtain⟨b,cap,hc,mq,o6,f,h4,o7⟩:=w2 ag.heap (ag.eval y) ax
 obtain⟨nY,o8,rK⟩:=z1 mq o7
 obtain⟨bg,w',cq,kH,cT,bf⟩:=Dz (P:=P) (w:=w) t o.type e hu hi aR iw jr e9 hn (v:=.slice none 0 0) (len:=0) (xs:=[]) ⟨by simp,.inl ⟨⟨none,rfl,fun _ h=>(by cases h)⟩,rfl⟩⟩ (b:=b) (m:=fs.length) (cap:=cap) nY (fun ad=>by rw[o6 ad];rfl)
  (fun bb aZ j u af=>by
   have cL:=(List.getElem?_eq_some_iff.1 af).1
   rw[nY]at cL
   have aa:=h4 bb aZ j cL
   simp[cL]at af
   rw[aa,af]) o8 (by omega) (by rw[Nat.zero_add];exact bM.2)
 unfold Oper.wp
 simp only[execOp,an,resolve,invoke,builtin,Sem.run_bind,Sem.run_pure,Result.andThen_ok,List.map_toArray,List.map_cons,List.map_nil,ag.ee hx,hc,cq]
 have jl:aE s.heap s.next=none:=by
  cases ah:aE s.heap s.next with
  |none=>rfl
  |some p=>have:=ag.trans.new _ _ ah;omega
 have hw: ∀b,b<w.heap.size→w'.heap[b]? =w.heap[b]? :=fun b ad=>cT.block b ad (by simp[b2])
 have cb: ∀b,ro b→w'.heap[b]? =w.heap[b]? :=fun b ad=>hw b (ag.heap.lt b ad)
 refine hK _ _ ⟨gV β s.next bg,ro,c2.put (ag.new (w':=w') s.next jl ad (Nat.le_refl _) (.row false e n fs) bg cT.os cT.tape cT.output cT.size hw (fun b ad=>?_) rfl ?_) o.dst _ _ ?_⟩
 ·rcases bf b ad with h|h
  ·simp[b2]at h
  ·exact h
 ·refine .row e n _ _ (by rw[dR];simpa using kH) mq (fun j x af=>(rK j x af).keep cb fun _ h=>h)
 ·exact .aN _ _ (Nat.lt_succ_self _) fun z bC cI dP _=>(dR _ _ _).symm
theorem RO{cap len:Nat}{isS:Bool}{lo hi mx:Option Value}{l h m:Nat}(hm:(mx=none∧m=cap)∨∃k,mx=some (.int k (m:Int)))(ba:(hi=none∧mx=none∧h=len)∨∃k,hi=some (.int k (h:Int)))
 (aq:(lo=none∧l=0)∨∃k,lo=some (.int k (l:Int)))(aa:l≤h)(ae:h≤m)(au:m≤cap)(w:World):(Instr.sliceBounds isS len cap lo hi mx).run P w= .ok (l,h,m) w:=by
 rcases hm with⟨rfl,rfl⟩|⟨zjP,rfl⟩<;>rcases ba with⟨rfl,sV,rfl⟩|⟨zjQ,rfl⟩<;>rcases aq with⟨rfl,rfl⟩|⟨RP,rfl⟩
 all_goals first
  |(cases sV;done)
  |simp[Instr.sliceBounds,Instr.sliceBound,asIntOf,aa,ae,au]
theorem DB (t : TypeId) (x : Operand) (lo hi : Option Operand) (an : o.op = .slice t x lo hi none) (aG : P.underlying t = some .string) {b : ByteArray} (hx : aI G s x = .av (.v (.string b))) {l h : Nat}
    (aq : (lo = none ∧ l = 0) ∨ ∃ y k, lo = some y ∧ aI G s y = .av (.v (.int k (l : Int)))) (ba : (hi = none ∧ h = b.size) ∨ ∃ y k, hi = some y ∧ aI G s y = .av (.v (.int k (h : Int)))) (aa : l ≤ h) (ae : h ≤ b.size) :
    cP P G o s (.av (.v (.string (b.extract l h)))) :=
  fun _ a w β ro ag => by
    have ad := RO (P := P) (cap := b.size) (len := b.size) (isS := false) (lo := lo.map a.eval) (hi := hi.map a.eval) (mx := none) (l := l) (h := h) (m := b.size) (.inl ⟨rfl, rfl⟩)
      (by rcases ba with ⟨rfl, rfl⟩ | ⟨y, k, rfl, ax⟩
          · exact .inl ⟨rfl, rfl, rfl⟩
          · exact .inr ⟨k, by simp [ag.ee ax]⟩)
      (by rcases aq with ⟨rfl, rfl⟩ | ⟨y, k, rfl, ax⟩
          · exact .inl ⟨rfl, rfl⟩
          · exact .inr ⟨k, by simp [ag.ee ax]⟩) aa ae (Nat.le_refl _) w
    exact ⟨_, by simp [execOp, an, ag.ee hx, Instr.sliceAt, run_underlying aG, Instr.slice, ad], .fD rfl⟩
theorem RQ(src dst:TypeId)(x:Operand)(an:o.op= .convert src dst x)(ai:(P.underlying src).isSome=true){bj:IntKind}(hd:P.underlying dst=some (.int bj)){k:IntKind}{n:Int}(hx:aI G s x= .av (.v (.int k n))):
 cP P G o s (.av (.v (.int bj (bj.wrap n)))):=
 fun _ a w β ro ag=>by
  cases hu:P.underlying src with
  |none=>simp[hu]at ai
  |some d=>exact⟨_,by simp[execOp,an,ag.ee hx,convert,run_underlying hu,run_underlying hd,Conv.intToInt],.fD rfl⟩
theorem RR(x y:Operand)(ts:Array TypeId)(an:o.op= .call {callee:=.builtin .min,args:=#[x,y],argTypes:=ts}){k:IntKind}{m n:Int}(hx:aI G s x= .av (.v (.int k m)))(ax:aI G s y= .av (.v (.int k n))):
 cP P G o s (.av (.v (.int k (if n<m then n else m)))):=
 fun _ a w β ro ag=>⟨.int k (if n<m then n else m),by simp[execOp,an,resolve,invoke,builtin,ag.ee hx,ag.ee ax,run_min_int2],.fD rfl⟩
theorem RS(x y:Operand)(ts:Array TypeId)(an:o.op= .call {callee:=.builtin .max,args:=#[x,y],argTypes:=ts}){k:IntKind}{m n:Int}(hx:aI G s x= .av (.v (.int k m)))(ax:aI G s y= .av (.v (.int k n))):
 cP P G o s (.av (.v (.int k (if n>m then n else m)))):=
 fun _ a w β ro ag=>⟨.int k (if n>m then n else m),by simp[execOp,an,resolve,invoke,builtin,ag.ee hx,ag.ee ax,run_max_int2],.fD rfl⟩
theorem zdE(cv ty:TypeId)(x y:Operand)(an:o.op= .binOp .add cv x y ty){u v:ByteArray}(hx:aI G s x= .av (.v (.string u)))(ax:aI G s y= .av (.v (.string v)))(bM:u.size+v.size≤9223372036854775807):
 cP P G o s (.av (.v (.string (u++v)))):=
 o1 .add cv ty x y an hx ax (by
  simp only[j4]
  rw[if_neg (by simp only[IntKind.max_i64];omega)])
end
end Go.aK
namespace Go.aK
open Go
def qq(s:aO)(o:Oper)(v:aD):Option aO:=some (s.put o.dst v)
def isStr(P:Program)(t:TypeId):Bool:=
 match P.underlying t with
 |some .string=>true
 |_=>false
def DC(P:Program)(t:TypeId):Bool:=
 match P.underlying t with
 |some .bool=>true
 |_=>false
theorem uW{P:Program}{t:TypeId}(h:isStr P t=true):P.underlying t=some .string:=by
 unfold isStr at h
 split at h
 ·assumption
 ·cases h
theorem DD{P:Program}{t:TypeId}(h:DC P t=true):P.underlying t=some .bool:=by
 unfold DC at h
 split at h
 ·assumption
 ·cases h
def Kq(P:Program)(G:a7)(b:Builtin)(xs:List Operand)(ts:List TypeId)(s:aO):Option aD:=
 match b,xs,ts with
 | .len,[x],[t]=>match lg s.heap (aI G s x)with
  |some m=>if isSlice P t then some (.av (.v (.int .i64 (m:Int))))else none
  |none=>match aI G s x with
   | .av (.v (.string b))=>if isStr P t then some (.av (.v (.int .i64 (b.size:Int))))else none
   |_=>match Dv P t with
    |some n=>some (.av (.v (.int .i64 (n:Int))))
    |none=>none
 | .min,[x,y],_=>match aI G s x,aI G s y with
  | .av (.v (.int k m)),.av (.v (.int bj n))=>if k=bj then some (.av (.v (.int k (if n<m then n else m))))else none
  |_,_=>none
 | .max,[x,y],_=>match aI G s x,aI G s y with
  | .av (.v (.int k m)),.av (.v (.int bj n))=>if k=bj then some (.av (.v (.int k (if n>m then n else m))))else none
  |_,_=>none
 |_,_,_=>none
def rL(P:Program)(G:a7)(o:Oper)(s:aO):Option aD:=
 match o.op with
 | .move x=>some (aI G s x)
 | .assign x=>some (aI G s x)
 | .load t x=>match fo s.heap (aI G s x)with
  |some cs=>match mh P t with
   |some n=>if n≤cs.length∧0<n then some (.agg (cs.take n))else none
   |none=>if scalar P t then match cs with
    |y::_=>some y
    |[]=>none
    else none
  |none=>none
 | .fieldAddr t x f=>match sS P t f,jL s.heap (aI G s x)with
  |some k,true=>some (rr k (aI G s x))
  |_,_=>none
 | .nilCheck x=>match jL s.heap (aI G s x)with
  |true=>some (aI G s x)
  |false=>none
 | .field t x f=>match aI G s x,w0 P t f with
  | .agg cs,some (off,none)=>match cs[off]? with
   |some v=>some v
   |none=>none
  | .agg cs,some (off,some n)=>if off+n≤cs.length then some (.agg ((cs.drop off).take n))else none
  |_,_=>none
 | .indexAddr t x i=>match aI G s i with
  | .av (.v (.int _ (.ofNat j)))=>match j6 P t with
   |some n=>match mn s.heap n j (aI G s x)with
    |some p=>some p
    |none=>none
   |none=>match uU P t,fo s.heap (aI G s x)with
    |some (len,n),some _=>if j<len then match iO (j*n) (aI G s x)with
     |some p=>some p
     |none=>none
     else none
    |_,_=>none
  |_=>none
 | .index t x i=>match aI G s i,aI G s x with
  | .av (.v (.int _ (.ofNat j))),.av (.v (.string b))=>if isStr P t then match b.data.toList[j]? with
   |some u=>some (.av (.v (.int .u8 (u.toNat:Int))))
   |none=>none
   else none
  |_,_=>none
 | .binOp op cv x y _=>match aI G s x,aI G s y with
  | .av (.v (.bool u)),.av (.v (.bool v))=>if DC P cv then match op with
   | .eql=>some (.av (.v (.bool (u==v))))
   | .neq=>some (.av (.v (.bool (!(u==v)))))
   |_=>none
   else none
  | .av (.v u),.av (.v v)=>match j4 op u v with
   |some c=>some (.av (.v c))
   |none=>none
  | .agg cs,.agg ds=>match m1 P cv,hB cs,hB ds with
   |some fs,some xs,some ys=>match zL P 0 fs xs ys with
    |some b=>match op with
     | .eql=>some (.av (.v (.bool b)))
     | .neq=>some (.av (.v (.bool (!b))))
     |_=>none
    |none=>none
   |_,_,_=>none
  |_,_=>none
 | .unOp op _ x=>match op,aI G s x with
  | .not,.av (.v (.bool b))=>some (.av (.v (.bool (!b))))
  | .neg,.av (.v (.int k n))=>some (.av (.v (.int k (k.wrap (0-n)))))
  |_,_=>none
 | .pick c x y=>match aI G s c with
  | .av (.v (.bool true))=>some (aI G s x)
  | .av (.v (.bool false))=>some (aI G s y)
  |_=>none
 | .extract x i=>match aI G s x with
  | .tuple cs=>match cs[i]? with
   |some v=>some v
   |none=>none
  |_=>none
 | .build t parts=>match places P t,zeroCells P t with
  |some pl,some zs=>if zs.all Value.oneCell'∧(parts.toList.map fun p=>(p.1,aI G s p.2)).all (fun p=>(cS p.2).all (eD s.heap))then
   match j7 pl (zs.map fun z=>.av (.v z)) (parts.toList.map fun p=>(p.1,aI G s p.2))with
   |some ds=>some (.agg ds)
   |none=>none
   else none
  |_,_=>none
 | .call c=>match c.callee with
  | .builtin b=>Kq P G b c.args.toList c.argTypes.toList s
  |_=>none
 | .convert src dst x=>match aI G s x,P.underlying dst with
  | .av (.v (.int _ n)),some (.int bj)=>if(P.underlying src).isSome then some (.av (.v (.int bj (bj.wrap n))))else none
  |_,_=>none
 |_=>none
def Kr(P:Program)(G:a7)(o:Oper)(s:aO):Option aO:=
 match rL P G o s with
 |some v=>qq s o v
 |none=>match o.op with
  | .store t p x=>match aI G s p with
   | .ptr id off=>match aE s.heap id with
    |some (.box bt cs)=>if(cS (aI G s x)).all (eD s.heap)∧(P.info? t).map (·.size)=some (cS (aI G s x)).length∧off+(cS (aI G s x)).length≤cs.length
     then qq {s with heap:=eM s.heap id (.box bt (ek cs off (cS (aI G s x))))} o .top else none
    |_=>none
   | .cV id i off=>match aE s.heap id with
    |some (.row false bt n es)=>match es[i]?,iP (cS (aI G s x))with
     |some e,some vs=>if(P.info? t).map (·.size)=some vs.length∧off+vs.length≤n then qq {s with heap:=eM s.heap id (.row false bt n (es.set i (ek e off vs)))} o .top else none
     |_,_=>none
    |_=>none
   |_=>none
  | .alloc t=>match zeroCells P t with
   |some zs=>if zs.all Value.oneCell'∧s.base≤s.next then qq {s with heap:=(s.next,.box t (zs.map fun z=>.av (.v z)))::s.heap,next:=s.next+1} o (.ptr s.next 0)else none
   |none=>none
  | .box t x=>if(cS (aI G s x)).all (eD s.heap)∧s.base≤s.next then qq {s with heap:=(s.next,.box t (cS (aI G s x)))::s.heap,next:=s.next+1} o (.ptr s.next 0)else none
  |_=>none
section
variable {P:Program} {G:a7} {o:Oper} {s bo:aO} {v:aD}
theorem zdF{b:Builtin}{args:Array Operand}{ts:Array TypeId}(an:o.op= .call {callee:=.builtin b,args,argTypes:=ts})(h:Kq P G b args.toList ts.toList s=some v):cP P G o s v:=by
 unfold Kq at h
 split at h
 ·rename_i x t aZ zdG
  have aB:args= #[x]:=by apply Array.ext';simpa using aZ
  have bd:ts= #[t]:=by apply Array.ext';simpa using zdG
  subst aB bd
  split at h
  ·rename_i m hm
   split at h
   ·rename_i aG
    simp only[Option.some.injEq]at h;subst h;exact Kj x t an aG hm
   ·cases h
  ·split at h
   ·rename_i b hx
    split at h
    ·rename_i aG
     simp only[Option.some.injEq]at h;subst h;exact Kk x t an (uW aG) hx
    ·cases h
   ·split at h
    ·rename_i n hn
     simp only[Option.some.injEq]at h;subst h;exact RA x t an hn
    ·cases h
 ·rename_i x y aZ
  have aB:args= #[x,y]:=by apply Array.ext';simpa using aZ
  subst aB
  split at h
  ·rename_i k m bj n hx ax
   split at h
   ·rename_i aj
    subst aj;simp only[Option.some.injEq]at h;subst h;exact RR x y ts an hx ax
   ·cases h
  ·cases h
 ·rename_i x y aZ
  have aB:args= #[x,y]:=by apply Array.ext';simpa using aZ
  subst aB
  split at h
  ·rename_i k m bj n hx ax
   split at h
   ·rename_i aj
    subst aj;simp only[Option.some.injEq]at h;subst h;exact RS x y ts an hx ax
   ·cases h
  ·cases h
 ·cases h
theorem Ks(h:rL P G o s=some v):cP P G o s v:=by
 unfold rL at h
 split at h
 ·rename_i x an
  simp only[Option.some.injEq]at h;subst h;exact QT x an
 ·rename_i x an
  simp only[Option.some.injEq]at h;subst h;exact QU x an
 ·rename_i t x an
  split at h
  ·rename_i cs hc
   split at h
   ·rename_i n hn
    split at h
    ·rename_i aq
     simp only[Option.some.injEq]at h;subst h;exact QV t x an hn hc aq.1 aq.2
    ·cases h
   ·split at h
    ·rename_i ai
     split at h
     ·simp only[Option.some.injEq]at h;subst h;exact JZ t x an ai hc
     ·cases h
    ·cases h
  ·cases h
 ·rename_i t x f an
  split at h
  ·rename_i k aj hc
   simp only[Option.some.injEq]at h;subst h;exact QY t x f an aj hc
  ·cases h
 ·rename_i x an
  split at h
  ·rename_i hc
   simp only[Option.some.injEq]at h;subst h;exact QZ x an hc
  ·cases h
 ·rename_i t x f an
  split at h
  ·rename_i cs off hx aG
   split at h
   ·rename_i v aw
    simp only[Option.some.injEq]at h;subst h;exact RF t x f an aG hx aw
   ·cases h
  ·rename_i cs off n hx aG
   split at h
   ·rename_i hn
    simp only[Option.some.injEq]at h;subst h;exact RG t x f an aG hx hn
   ·cases h
  ·cases h
 ·rename_i t x i an
  split at h
  ·rename_i k j hi
   split at h
   ·rename_i n hn
    split at h
    ·rename_i p ak
     simp only[Option.some.injEq]at h;subst h;exact RD t x i an hn hi ak
    ·cases h
   ·split at h
    ·rename_i len n cs aG dI
     split at h
     ·rename_i af
      split at h
      ·rename_i p ak
       simp only[Option.some.injEq]at h;subst h;exact Kl t x i an aG hi af dI ak
      ·cases h
     ·cases h
    ·cases h
  ·cases h
 ·rename_i t x i an
  split at h
  ·rename_i k j b hi hx
   split at h
   ·rename_i aG
    split at h
    ·rename_i u hu
     simp only[Option.some.injEq]at h;subst h;exact RE t x i an (uW aG) hi hx hu
    ·cases h
   ·cases h
  ·cases h
 ·rename_i op cv x y ty an
  split at h
  ·rename_i u v hx ax
   split at h
   ·rename_i aG
    split at h
    ·simp only[Option.some.injEq]at h;subst h;exact Rg cv ty x y an (DD aG) hx ax
    ·simp only[Option.some.injEq]at h;subst h;exact Rh cv ty x y an (DD aG) hx ax
    ·cases h
   ·cases h
  ·rename_i u v _ hx ax
   split at h
   ·rename_i c hc
    simp only[Option.some.injEq]at h;subst h;exact o1 _ cv ty x y an hx ax hc
   ·cases h
  ·rename_i cs ds hx ax
   split at h
   ·rename_i fs xs ys hf nT mj
    split at h
    ·rename_i b ad
     split at h
     ·simp only[Option.some.injEq]at h;subst h;exact Rn cv ty x y an hf hx ax nT mj ad
     ·simp only[Option.some.injEq]at h;subst h;exact Ro cv ty x y an hf hx ax nT mj ad
     ·cases h
    ·cases h
   ·cases h
  ·cases h
 ·rename_i op t x an
  split at h
  ·rename_i b hx
   simp only[Option.some.injEq]at h;subst h;exact Rp t x an hx
  ·rename_i k n hx
   simp only[Option.some.injEq]at h;subst h;exact Rq t x an hx
  ·cases h
 ·rename_i c x y an
  split at h
  ·rename_i hc
   simp only[Option.some.injEq]at h;subst h;exact zN c x y an hc rfl
  ·rename_i hc
   simp only[Option.some.injEq]at h;subst h;exact zN c x y an hc rfl
  ·cases h
 ·rename_i x i an
  split at h
  ·rename_i cs hx
   split at h
   ·rename_i v aw
    simp only[Option.some.injEq]at h;subst h;exact Rr x i an hx aw
   ·cases h
  ·cases h
 ·rename_i t parts an
  split at h
  ·rename_i pl zs ak aR
   split at h
   ·rename_i hc
    split at h
    ·rename_i ds hf
     simp only[Option.some.injEq]at h;subst h;exact RK t parts an ak aR hc.1 rfl hc.2 hf
    ·cases h
   ·cases h
  ·cases h
 ·rename_i c an
  split at h
  ·rename_i b ad
   obtain⟨callee,args,ts⟩:=c;simp only at ad h;subst ad;exact zdF an h
  ·cases h
 ·rename_i src dst x an
  split at h
  ·rename_i k n bj hx hd
   split at h
   ·rename_i ai
    simp only[Option.some.injEq]at h;subst h;exact RQ src dst x an ai hd hx
   ·cases h
  ·cases h
 ·cases h
theorem zdH(h:Kr P G o s=some bo):dQ P G o s bo:=by
 unfold Kr at h
 split at h
 ·rename_i v aw
  simp only[qq,Option.some.injEq]at h;subst h;exact(Ks aw).step
 ·split at h
  ·rename_i t p x an
   split at h
   ·rename_i id off ak
    split at h
    ·rename_i bt cs ah
     split at h
     ·rename_i hc
      simp only[qq,Option.some.injEq]at h;subst h;exact Q8 t p x an ak ah rfl hc.1 hc.2.1 hc.2.2
     ·cases h
    ·cases h
   ·rename_i id i off ak
    split at h
    ·rename_i bt n es ah
     split at h
     ·rename_i e vs he aw
      split at h
      ·rename_i hc
       simp only[qq,Option.some.injEq]at h;subst h;exact Ra t p x an ak ah he aw hc.1 hc.2
      ·cases h
     ·cases h
    ·cases h
   ·cases h
  ·rename_i t an
   split at h
   ·rename_i zs aR
    split at h
    ·rename_i hc
     simp only[qq,Option.some.injEq]at h;subst h;exact Q6 t an hc.2 aR hc.1
    ·cases h
   ·cases h
  ·rename_i t x an
   split at h
   ·rename_i hc
    simp only[qq,Option.some.injEq]at h;subst h;exact Q4 t x an hc.2 hc.1
   ·cases h
  ·cases h
def dN(ops:Array Oper)(s:aO)(o:Oper):Option Bool:=
 match o.guard with
 |none=>some true
 |some (j,b)=>match ml ops j with
  |some d=>match s.cR[d]? with
   |some (.av (.v (.bool c)))=>some (match b,c with
    |true,true=>true
    |false,false=>true
    |_,_=>false)
   |some (.tuple _)=>some false
   |_=>none
  |none=>none
def w4(P:Program)(G:a7)(ops:Array Oper):Nat→List Oper→aO→Option aO
 |0,_,s=>some s
 |n+1,o::r,s=>match dN ops s o with
  |some true=>match Kr P G o s with
   |some bo=>w4 P G ops n r bo
   |none=>none
  |some false=>w4 P G ops n r (s.put o.dst (.tuple []))
  |none=>none
 |_+1,[],_=>none
variable {Q:Exit→aO→Prop}
theorem cu.step{ops:Array Oper}{rest:List Oper}(ah:dN ops s o=some true)(h:dQ P G o s bo)(k:cu P G ops Q rest bo):cu P G ops Q (o::rest) s:=by
 unfold dN at ah
 split at ah
 ·rename_i hn
  exact cu.cons hn h k
 ·rename_i j b hn
  split at ah
  ·rename_i d hd
   split at ah
   ·rename_i c ai
    simp only[Option.some.injEq]at ah
    have z6:b=c:=by cases b<;>cases c<;>simp_all
    subst z6;exact cu.guarded hn hd ai h k
   ·cases ah
   ·cases ah
  ·cases ah
theorem cu.pass{ops:Array Oper}{rest:List Oper}(ah:dN ops s o=some false)(k:cu P G ops Q rest (s.put o.dst (.tuple []))):cu P G ops Q (o::rest) s:=by
 unfold dN at ah
 split at ah
 ·cases ah
 ·rename_i j b hn
  split at ah
  ·rename_i d hd
   split at ah
   ·rename_i c ai
    simp only[Option.some.injEq]at ah
    have z6:c= !b:=by cases b<;>cases c<;>simp_all
    subst z6;exact cu.zdg hn hd ai k
   ·rename_i cs ai
    exact cu.zdh hn hd ai k
   ·cases ah
  ·cases ah
theorem cu.run{ops:Array Oper}: ∀(n:Nat) {l:List Oper} {s bo:aO},w4 P G ops n l s=some bo→cu P G ops Q (l.drop n) bo→cu P G ops Q l s
 |0,l,s,bo,h,k=>by
  simp[w4]at h;subst h;exact k
 |n+1,[],s,bo,h,k=>by simp[w4]at h
 |n+1,o::r,s,bo,h,k=>by
  simp only[w4]at h
  split at h
  ·rename_i ah
   split at h
   ·rename_i s1 aa
    exact cu.step ah (zdH aa) (cu.run n h k)
   ·cases h
  ·rename_i ah
   exact cu.pass ah (cu.run n h k)
  ·cases h
end
end Go.aK
namespace Go.aK
open Go
abbrev iQ(n:Int):aD:=.av (.v (.int .i64 n))
abbrev pL(b:Bool):aD:=.av (.v (.bool b))
abbrev vs(s:ByteArray):aD:=.av (.v (.string s))
abbrev zdI(l:List a1):List aD:=l.map .av
def m6:Nat→Nat→List (Nat × aD)→List aD
 |_,0,_=>[]
 |i,k+1,[]=>.top::m6 (i+1) k []
 |i,k+1,(j,v)::r=>if i=j then v::m6 (i+1) k r else .top::m6 (i+1) k ((j,v)::r)
theorem gQ(n:Int)(aa: -9223372036854775808≤n)(ae:n≤9223372036854775807):IntKind.i64.wrap n=n:=by
 rw[IntKind.wrap_i64];omega
def mr(σ:Heap):Heap→Heap
 |[]=>[]
 |(k,.box t cs)::r=>(k,.box t (kF σ cs))::mr σ r
 |(k,.row z t n es)::r=>(k,.row z t n es)::mr σ r
 |(k,.bL bO)::r=>(k,.bL bO)::mr σ r
def kI(σ:Heap):ej→ej
 | .box t cs=>.box t (kF σ cs)
 | .row z t n es=>.row z t n es
 | .bL bO=>.bL bO
theorem qt(σ:Heap): ∀(h:Heap) (k:Nat),aE (mr σ h) k=(aE h k).map (kI σ)
 |[],k=>by simp[mr,aE]
 |(j,.box t cs)::r,k=>by
  by_cases af:j=k
  ·simp[mr,aE,af,kI]
  ·simp[mr,aE,af,qt σ r k]
 |(j,.row z t n es)::r,k=>by
  by_cases af:j=k
  ·simp[mr,aE,af,kI]
  ·simp[mr,aE,af,qt σ r k]
 |(j,.bL bO)::r,k=>by
  by_cases af:j=k
  ·simp[mr,aE,af,kI]
  ·simp[mr,aE,af,qt σ r k]
theorem ia.Kt{w:World}{ro:Nat→Prop}{t:TypeId}{n:Nat}{v:Value}{es:List (List a1)}{xs:List Value}(h:ia w t n v es.length xs)(hn: ∀e∈es,e.length=n)(hc: ∀j x,es.flatten[j]? =some x→cQ w ro x (xs.getD j undef))
 (cb: ∀b,b2 v=some b→ro b):cQ w ro (.aN n es) v:=by
 rcases h.2 with⟨⟨b,aw,_⟩,aR⟩|⟨g,cap,cur,aw,ak,ah,hle,ie,dI,lI⟩
 ·subst aw
  have:es=[]:=List.eq_nil_of_length_eq_zero aR
  subst this;exact .aN n [] b 0 (fun _=>undef) (by simp) (Nat.zero_le _) (by simp) (by simp) (by simp)
 ·subst aw
  refine .aN n es _ cap (fun j=>xs.getD j undef) hle ie hn (fun _=>⟨⟨g,0,none⟩,rfl,fun j af=>⟨cb g (by simp[b2,Nat.ne_of_gt ak]),?_⟩⟩) hc
  rw[addLit,Nat.zero_add,cell_of_row w g j cur t (0,0) ah]
  have hx:xs[j]? =cur[j]? :=by rw[←lI,List.getElem?_take,if_pos af];simp
  have jK:j<xs.length:=by rw[h.1];exact af
  rw[←hx];simp[List.getD,List.getElem?_eq_getElem jK]
def m7(s:aO)(id:Nat):aO:=
 match aE s.heap id with
 |some (.row false t n es)=>⟨kF [(id,.row true t n es)] s.cR,mr [(id,.row true t n es)] (gj s.heap id),s.next,s.base⟩
 |_=>s
theorem cm.m7(s:aO)(id:Nat):cm s (m7 s id):=by
 unfold Go.aK.m7
 split
 ·rename_i t n es bc
  intro E G a w ⟨β,ro,h⟩
  have dg:=h.heap.c5 id _ bc
  cases dg with
  |row _ _ _ xs cY hn hc=>

   have DE:cQ w (fun b=>ro b∨b2 (β id)=some b) (.aN n es) (β id):=cY.Kt hn (fun j x af=>(hc j x af).keep (fun _ _=>rfl) fun _ h=>.inl h) fun b ad=>.inr ad
   have gz: ∀k o,aE (gj s.heap id) k=some o→aE s.heap k=some o∧k≠id:=by
    intro k o aj;rw[zC]at aj
    split at aj
    ·cases aj
    ·rename_i b3
     exact⟨aj,fun e=>b3 e.symm⟩
   have view: ∀x c,br w ro s.heap β s.next x c→br w (fun b=>ro b∨b2 (β id)=some b) (mr [(id,.row true t n es)] (gj s.heap id)) β s.next (hN [(id,.row true t n es)] x) c:=by
    intro x c hx
    induction hx with
    |av x c hx=>exact .av x c (hx.keep (fun _ _=>rfl) fun _ h=>.inl h)
    |agg cs c aa _ aX=>
     refine .agg _ c (by rw[nU];exact aa) fun j x af=>?_
     obtain⟨y,ax,rfl⟩:=o3 _ af;exact aX j y ax
    |tuple cs c aa _ aX=>
     refine .tuple _ c (by rw[nU];exact aa) fun j x af=>?_
     obtain⟨y,ax,rfl⟩:=o3 _ af;exact aX j y ax
    |ptr k off c aq ak=>
     refine .ptr k off c aq fun bC cs' ah=>?_
     rw[qt]at ah
     cases aj:aE (gj s.heap id) k with
     |none=>simp[aj]at ah
     |some p=>
      cases p with
      |box t2 z7=>exact ak t2 z7 (gz k _ aj).1
      |row=>simp[aj,kI]at ah
      |bL=>simp[aj,kI]at ah
    |dz k off c aq ak=>
     refine .dz k off c aq fun bC cs' ah=>?_
     rw[qt]at ah
     cases aj:aE (gj s.heap id) k with
     |none=>simp[aj]at ah
     |some p=>
      cases p with
      |box t2 z7=>exact ak t2 z7 (gz k _ aj).1
      |row=>simp[aj,kI]at ah
      |bL=>simp[aj,kI]at ah
    |cV k i off c aq ak=>
     refine .cV k i off c aq fun iv bC cI dP ah=>?_
     rw[qt]at ah
     cases aj:aE (gj s.heap id) k with
     |none=>simp[aj]at ah
     |some p=>
      cases p with
      |box t2 z7=>simp[aj,kI]at ah
      |bL=>simp[aj,kI]at ah
      |row z2 t2 gu zdJ=>
       simp only[aj,kI,Option.map_some,Option.some.injEq,ej.row.injEq]at ah;obtain⟨rfl,rfl,rfl,rfl⟩:=ah;exact ak _ _ _ _ (gz k _ aj).1
    |aN k c aq ak=>
     simp only[hN,aE]
     by_cases aj:id=k
     ·subst aj
      simp only[if_true];rw[ak _ _ _ _ bc];exact .av _ _ DE
     ·simp only[if_neg aj]
      refine .aN k c aq fun iv bC cI dP ah=>?_
      rw[qt]at ah
      cases eA:aE (gj s.heap id) k with
      |none=>simp[eA]at ah
      |some p=>
       cases p with
       |box t2 z7=>simp[eA,kI]at ah
       |bL=>simp[eA,kI]at ah
       |row z2 t2 gu zdJ=>exact ak _ _ _ _ (gz k _ eA).1
    |fn f p q c d aa ae _ _ hk hl=>
     refine .fn f _ _ c d (by rw[nU];exact aa) (by rw[nU];exact ae) (fun j x af=>?_) (fun j x af=>?_)
     ·obtain⟨y,ax,rfl⟩:=o3 _ af
      exact hk j y ax
     ·obtain⟨y,ax,rfl⟩:=o3 _ af
      exact hl j y ax
    |ref k c aq ak=>
     refine .ref k c aq fun bO ah=>?_
     rw[qt]at ah
     cases aj:aE (gj s.heap id) k with
     |none=>simp[aj]at ah
     |some p=>
      cases p with
      |box=>simp[aj,kI]at ah
      |row=>simp[aj,kI]at ah
      |bL lH=>exact ak lH (gz k _ aj).1
    |top c=>exact .top c
   have back: ∀k o,aE (mr [(id,.row true t n es)] (gj s.heap id)) k=some o→∃p,aE s.heap k=some p∧k≠id∧p.live=o.live∧o=kI [(id,.row true t n es)] p:=by
    intro k o ah;rw[qt]at ah
    cases aj:aE (gj s.heap id) k with
    |none=>simp[aj]at ah
    |some p=>
     obtain⟨aa,ae⟩:=gz k p aj;refine⟨p,aa,ae,?_,?_⟩
     ·simp[aj]at ah
      subst ah
      cases p<;>rfl
     ·simp[aj]at ah
      exact ah.symm
   refine⟨β,fun b=>ro b∨b2 (β id)=some b,h.defers,by simpa[nU]using h.size,fun i x hx=>?_,⟨fun k o ah=>?_,fun k bj o cz b ah dV aq sW ad gy=>?_,fun b ad=>?_,fun b ad=>?_⟩,
    h.ib.keep (fun _ _=>rfl) fun _ h=>.inl h,?_,h.base⟩
   ·obtain⟨y,ax,rfl⟩:=o3 _ hx
    exact view _ _ (h.slot i y ax)
   ·obtain⟨p,aa,ae,au,rfl⟩:=back k o ah
    have an:=h.heap.c5 k p aa
    cases an with
    |box bC cs' b arr aB bd cj eo=>
     refine .box bC _ b arr aB bd (by rw[nU];exact cj) fun j x af=>?_
     obtain⟨y,ax,rfl⟩:=o3 _ af;exact view _ _ (eo j y ax)
    |row bC cI dP J5 aB bd cj=>exact .row bC cI dP J5 aB bd fun j x af=>(cj j x af).keep (fun _ _=>rfl) fun _ h=>.inl h
    |ga bC cI dP aB=>exact .ga bC cI dP (aB.keep (fun _ _=>rfl) fun _ h=>.inl h)
    |bL bO b o aB bd cj=>exact .bL bO b o aB bd (bO.mono _ _ _ _ (fun x c h=>h.keep (fun _ _=>rfl) fun _ h=>.inl h) cj)
   ·obtain⟨p,aa,_,au,_⟩:=back k o ah
    obtain⟨fW,sX,_,zdK,_⟩:=back bj cz dV;exact h.heap.inj k bj p fW b aa sX (au.trans aq) (zdK.trans sW) ad gy
   ·rintro⟨k,o,ah,aq,bf⟩
    obtain⟨p,aa,ae,au,_⟩:=back k o ah
    rcases ad with ad|ad
    ·exact h.heap.fg b ad ⟨k,p,aa,au.trans aq,bf⟩
    ·exact ae (h.heap.inj k id p _ b aa bc (au.trans aq) rfl bf ad)
   ·rcases ad with ad|ad
    ·exact h.heap.lt b ad
    ·exact(cY.hJ ad).1
   ·have bC:=h.trans
    refine⟨bC.os,bC.tape,bC.output,bC.size,bC.frame,fun b ad=>?_,fun b ad=>.inl (bC.j1 b ad),?_,fun k aj o ah=>?_,fun k o ah=>?_,bC.le⟩
    ·rcases ad with ad|ad
     ·exact bC.jk b ad
     ·rcases bC.hj b ⟨id,_,bc,rfl,ad⟩with hc|hc
      ·exact .inr (.inl hc)
      ·exact .inr (.inr hc)
    ·rintro b ⟨k,o,ah,aq,bf⟩
     obtain⟨p,aa,_,au,_⟩:=back k o ah;exact bC.hj b ⟨k,p,aa,au.trans aq,bf⟩
    ·obtain⟨p,aa,_,_,_⟩:=back k o ah
     exact bC.dK k aj p aa
    ·obtain⟨p,aa,_,_,_⟩:=back k o ah
     exact bC.new k p aa
 ·exact cm.refl s
end Go.aK
namespace Go.aK
open Go
def qu(s:ByteArray)(pos:Nat):wQ:=⟨fun _ v o=>(∃b,v= .pointer (some ⟨b,0,none⟩))∧o= .stringIter s pos,fun _ _ _ _ _ h=>h,none,fun _ h=>by cases h⟩
section
variable {P:Program} {G:a7} {o:Oper} {s:aO}
theorem run_newObj(ic:Obj)(w:World):(newObj ic).run P w= .ok w.heap.size (w.alloc ic):=rfl
theorem RT{w:World}{r:Nat}{b:ByteArray}{p:Nat}(h:w.heap[r]? =some (.stringIter b p)):(getObj r).run P w= .ok (.stringIter b p) w:=by simp[getObj,Sem.run,h]
theorem zdL{w:World}{r:Nat}{b:ByteArray}{p:Nat}(ic:Obj)(h:w.heap[r]? =some (.stringIter b p)):(setObj r ic).run P w= .ok () {w with heap:=w.heap.setIfInBounds r ic}:=by simp[setObj,Sem.run,h]
theorem zdM(t:TypeId)(x:Operand)(an:o.op= .range t x)(aG:P.underlying t=some .string){b:ByteArray}(hx:aI G s x= .av (.v (.string b)))(ad:s.base≤s.next):
 dQ P G o s ({s with heap:=(s.next,.bL (qu b 0))::s.heap,next:=s.next+1}.put o.dst (.ref s.next)):=by
 intro E a w ⟨β,ro,ag⟩ K Q hK
 unfold Oper.wp
 simp only[execOp,an,ag.ee hx,Sem.run_bind,Instr.range,run_underlying aG,Result.andThen_ok,Sem.run_pure]
 have jl:aE s.heap s.next=none:=by
  cases ah:aE s.heap s.next with
  |none=>rfl
  |some p=>have:=ag.trans.new _ _ ah;omega
 have fc:=ag.new (w':=w.alloc (.stringIter b 0)) s.next jl ad (Nat.le_refl _) (.bL (qu b 0)) (.pointer (some ⟨w.heap.size,0,none⟩)) rfl rfl rfl (by simp) (fun b ad=>Go.RowKit.Below.heap_alloc w _ b ad) (fun b ad=>by simp[b2]at ad;omega) rfl
  (.bL _ w.heap.size (.stringIter b 0) (by rw[dR];rfl) (heap_alloc_new w _) ⟨⟨_,dR _ _ _⟩,rfl⟩)
 have aj:=hK _ _ ⟨_,ro,fc.put o.dst (.ref s.next) (.pointer (some ⟨w.heap.size,0,none⟩)) (.ref _ _ (Nat.lt_succ_self _) fun bO _=>(dR _ _ _).symm)⟩
 rw[run_newObj]
 exact aj
theorem zdN(x:Operand)(an:o.op= .next x true){id:Nat}(hx:aI G s x= .ref id){b:ByteArray}{pos:Nat}(bc:aE s.heap id=some (.bL (qu b pos)))(ak:b.size≤pos):
 cP P G o s (.tuple [.av (.v (.bool false))]):=
 fun E a w β ro ag=>by
  have dg:=ag.heap.c5 id _ bc
  cases dg with
  |bL _ DF ic aa ae au=>
   obtain⟨⟨b',gy⟩,rfl⟩:=au
   have dS:=ag.eval x
   rw[hx]at dS;generalize he:a.eval x=c at dS
   cases dS with
   |ref _ _ _ hc=>
    have iR:=hc _ bc
    rw[gy]at aa iR;simp only[b2,Option.some.injEq]at aa;subst aa;refine⟨.tuple #[.bool false],?_,.tuple _ _ rfl fun j y af=>?_⟩
    ·have hn: ¬pos<b.size:=by omega
     rw[iR]at he;simp[execOp,an,he,Instr.next,RT ae,hn]
    ·cases j with
     |zero=>simp at af;subst af;exact .fD rfl
     |succ j=>simp at af
theorem zdO(x:Operand)(an:o.op= .next x true){id:Nat}(hx:aI G s x= .ref id){b:ByteArray}{pos:Nat}(bc:aE s.heap id=some (.bL (qu b pos)))(ak:pos<b.size){c k:Nat}(hd:Utf8.decode b pos=(c,k)):
 dQ P G o s ({s with heap:=eM s.heap id (.bL (qu b (pos+k)))}.put o.dst (.tuple [.av (.v (.bool true)),.av (.v (.int .i64 (pos:Int))),.av (.v (.int .i32 (c:Int)))])):=by
 intro E a w ⟨β,ro,ag⟩ K Q hK
 have dg:=ag.heap.c5 id _ bc
 cases dg with
 |bL _ DF ic aa ae au=>
  obtain⟨⟨b',gy⟩,rfl⟩:=au
  have dS:=ag.eval x
  rw[hx]at dS;generalize he:a.eval x=o9 at dS
  cases dS with
  |ref _ _ _ hc=>
   have iR:=hc _ bc
   have pa:=aa
   rw[gy]at aa iR;simp only[b2,Option.some.injEq]at aa;subst aa;rw[iR]at he;unfold Oper.wp
   have cq:(execOp a.eval o).run P w= .ok (.value (.tuple #[.bool true,goInt pos,.int .i32 c])) {w with heap:=w.heap.setIfInBounds b' (.stringIter b (pos+k))}:=by
    simp[execOp,an,he,Instr.next,RT ae,ak,hd,zdL _ ae]
   rw[cq]
   have bG:=(Array.getElem?_eq_some_iff.1 ae).1
   have hw:=ag.write (w':={w with heap:=w.heap.setIfInBounds b' (.stringIter b (pos+k))}) id _ (.bL (qu b (pos+k))) bc rfl rfl (.inr (.inr ⟨_,_,rfl,rfl⟩)) rfl rfl rfl (by simp) (fun j af b3=>by
    have:b'≠j:=fun e=>b3 (by rw[gy,←e];rfl)
    simp[Array.getElem?_setIfInBounds_ne this]) (.bL _ b' (.stringIter b (pos+k)) pa (by simp[bG]) ⟨⟨b',gy⟩,rfl⟩)
   refine hK _ _ ⟨β,ro,hw.put o.dst _ _ (.tuple _ _ rfl fun j y af=>?_)⟩
   match j,af with
   |0,af=>simp at af;subst af;exact .fD rfl
   |1,af=>simp at af;subst af;exact .fD rfl
   |2,af=>simp at af;subst af;exact .fD rfl
   |j+3,af=>simp at af
end
end Go.aK
namespace Go.aK
open Go
section
variable {P:Program} {G:a7} {o:Oper} {s:aO} {E:Entry} {a:Act} {w w':World} {β:Nat→Value} {ro ro':Nat→Prop}
theorem c2.grow(h:c2 E G s a w β ro)(oX:w'.os=w.os)(oY:w'.tape=w.tape)(kE:w'.output=w.output)(bM:w.heap.size≤w'.heap.size)(hw: ∀b,b<w.heap.size→w'.heap[b]? =w.heap[b]?)
 (cb: ∀b,ro b→ro' b)(fc: ∀b,ro' b→ro b∨(w.heap.size≤b∧b<w'.heap.size)):c2 E G s a w' β ro':=by
 have aj: ∀b,ro b→w'.heap[b]? =w.heap[b]? :=fun b ad=>hw b (h.heap.lt b ad)
 refine⟨h.defers,h.size,fun i x hx=>(h.slot i x hx).keep aj cb (Nat.le_refl _) (fun _ t cs ah=>⟨rfl,t,cs,ah⟩) (fun _ z t _ es ah=>⟨rfl,z,t,es,ah⟩) (fun _ bO ah=>⟨rfl,bO,ah⟩),
  ⟨fun id ic ah=>(h.heap.c5 id ic ah).keep aj cb (Nat.le_refl _) bM rfl (fun aq b ad=>hw b ((h.heap.c5 id ic ah).hJ aq ad)) (fun _ t cs ah=>⟨rfl,t,cs,ah⟩) (fun _ z t _ es ah=>⟨rfl,z,t,es,ah⟩) (fun _ bO ah=>⟨rfl,bO,ah⟩),h.heap.inj,fun b ad an=>?_,fun b ad=>?_⟩,
  h.ib.keep aj cb,?_,h.base⟩
 ·rcases fc b ad with aa|⟨aa,_⟩
  ·exact h.heap.fg b aa an
  ·obtain⟨id,ic,ah,aq,gy⟩:=an
   have:=(h.heap.c5 id ic ah).hJ aq gy
   omega
 ·rcases fc b ad with aa|⟨_,aa⟩
  ·exact Nat.lt_of_lt_of_le (h.heap.lt b aa) bM
  ·exact aa
 ·have t:=h.trans
  refine⟨oX.trans t.os,oY.trans t.tape,kE.trans t.output,Nat.le_trans t.size bM,fun b ad hn=>(hw b (Nat.lt_of_lt_of_le ad t.size)).trans (t.frame b ad hn),fun b ad=>?_,fun b ad=>cb b (t.j1 b ad),t.hj,t.dK,t.new,t.le⟩
  rcases fc b ad with aa|⟨aa,_⟩
  ·exact t.jk b aa
  ·exact .inr (.inr (Nat.le_trans t.size aa))
theorem dQ.Ku{t:TypeId}{n:Nat}{es:List (List a1)}(ba:w1 P G o s t n es):dQ P G o s (s.put o.dst (.av (.aN n es))):=by
 obtain⟨hn,h⟩:=ba
 intro E a w ⟨β,ro,ag⟩ K Q hK
 obtain⟨v,xs,w',cq,hA,cT,gH,eV⟩:=h E a w β ro ag
 unfold Oper.wp
 rw[cq]
 have hw: ∀b,b<w.heap.size→w'.heap[b]? =w.heap[b]? :=fun b ad=>cT.block b ad (by simp)
 have cY:ia w' t n v es.length xs:=.Dy hA
 have ah:=ag.grow (ro':=fun b=>ro b∨b2 v=some b) cT.os cT.tape cT.output cT.size hw (fun _ h=>.inl h) (fun b ad=>by
  rcases ad with h|h
  ·exact .inl h
  ·exact .inr ⟨gH b h,(cY.hJ h).1⟩)
 exact hK _ _ ⟨β,_,ah.put o.dst _ _ (.av _ _ (cY.Kt hn (fun j x af=>(eV j x af).keep (fun b ad=>hw b (ag.heap.lt b ad)) fun _ h=>.inl h) fun b ad=>.inr ad))⟩
mutual
theorem RU(d:Nat): ∀(x:aD),fE x=true→qn d x=x∧gA 0 x=true
 | .av _,_=>⟨rfl,rfl⟩
 | .agg cs,h=>by
  have:=z8 d cs (by simpa[fE]using h)
  exact⟨by simp[qn,this.1],by simpa[gA]using this.2⟩
 | .tuple cs,h=>by
  have:=z8 d cs (by simpa[fE]using h)
  exact⟨by simp[qn,this.1],by simpa[gA]using this.2⟩
 | .fn f p q,h=>by
  simp only[fE,Bool.and_eq_true]at h
  have aa:=z8 d p h.1
  have ae:=z8 d q h.2
  exact⟨by simp[qn,aa.1,ae.1],by simp[gA,aa.2,ae.2]⟩
 | .top,_=>⟨rfl,rfl⟩
 | .ptr _ _,h=>by simp[fE]at h
 | .dz _ _,h=>by simp[fE]at h
 | .cV _ _ _,h=>by simp[fE]at h
 | .aN _,h=>by simp[fE]at h
 | .ref _,h=>by simp[fE]at h
theorem z8(d:Nat): ∀(l:List aD),e3 l=true→lJ d l=l∧la 0 l=true
 |[],_=>⟨rfl,rfl⟩
 |x::r,h=>by
  simp only[e3,Bool.and_eq_true]at h
  have aa:=RU d x h.1
  have ae:=z8 d r h.2
  exact⟨by simp[lJ,aa.1,ae.1],by simp[la,aa.2,ae.2]⟩
end
theorem dQ.zdP{x:Operand}{xs:Array Operand}{ts:Array TypeId}(an:o.op= .call {callee:=.value x,args:=xs,argTypes:=ts}){f:FuncId}(hx:aI G s x= .fn (.func f) [] [])
 (gB:m4 P f=true){args:List aD}(h2:xs.toList.map (fun y=>hN s.heap (aI G s y))=args)(o4:e3 args=true){r:aD}(hc:dF P G f args [] 0 fun dG bU=>dG=r∧bU=[])(ag:fE r=true)(ad:s.base≤s.next):
 dQ P G o s (s.put o.dst r):=by
 obtain⟨Kv,rM⟩:=RU s.next r ag
 have:=dQ.call (K:=0) an hx gB h2 o4 hc (fun _ _ h=>h) rM rfl ad
 rw[Kv]at this
 exact this
def js(ks:List Nat)(l:List aD):List aD:=l.mapIdx fun i x=>if ks.contains i then x else .top
theorem Aa(ks:List Nat)(l:List aD)(i:Nat):(js ks l)[i]? =(l[i]?).map fun x=>if ks.contains i then x else .top:=by
 simp[js]
theorem c2.mask(h:c2 E G s a w β ro)(ks:List Nat):c2 E G {s with cR:=js ks s.cR} a w β ro:=by
 refine⟨h.defers,by simp[js,h.size],fun i x hx=>?_,h.heap,h.ib,h.trans,h.base⟩
 simp only[Aa]at hx
 cases hi:s.cR[i]? with
 |none=>simp[hi]at hx
 |some y=>
  simp only[hi,Option.map_some,Option.some.injEq]at hx
  split at hx
  ·subst hx;exact h.slot i y hi
  ·subst hx;exact .top _
def DStep(P:Program)(G:a7)(ops:Array Oper)(dq:aO)(T:List aD)(o:Oper)(v:aD):Prop:=
 ∀s:aO,s.heap=dq.heap→s.next=dq.next→s.base=dq.base→s.cR.length=T.length→(∀t∈o.looksAt ops,s.cR[t]? =T[t]?)→
  (dN ops s o=some true∧dQ P G o s (s.put o.dst v))∨(dN ops s o=some false∧v= .tuple [])
theorem Kw{ks:List Nat}{l h1:List aD}(hlen:l.length=h1.length)(h: ∀t∈ks,l[t]? =h1[t]?):js ks l=js ks h1:=by
 apply List.ext_getElem?
 intro i
 rw[Aa,Aa]
 by_cases hi:i∈ks
 ·rw[h i hi]
 ·have hc:ks.contains i=false:=by simpa using hi
  simp only[hc]
  by_cases aq:i<l.length
  ·rw[List.getElem?_eq_getElem aq,List.getElem?_eq_getElem (by omega)];rfl
  ·rw[List.getElem?_eq_none (by omega),List.getElem?_eq_none (by omega)]
theorem Kx{ops:Array Oper}{ks:List Nat}(aj: ∀j b,o.guard=some (j,b)→∀d,ml ops j=some d→d∈ks):dN ops {s with cR:=js ks s.cR} o=dN ops s o:=by
 unfold dN
 cases ah:o.guard with
 |none=>rfl
 |some Ky=>
  obtain⟨j,b⟩:=Ky;simp only
  cases hd:ml ops j with
  |none=>rfl
  |some d=>
   have hm:ks.contains d=true:=by simpa using aj j b ah d hd
   simp only[Aa]
   cases ai:s.cR[d]? with
   |none=>simp
   |some x=>simp only[Option.map_some,hm,if_true]
theorem Kz{ops:Array Oper}(j:Nat)(b:Bool)(ah:o.guard=some (j,b))(d:Nat)(hd:ml ops j=some d):d∈o.looksAt ops:=by
 unfold ml at hd
 simp[Oper.looksAt,ah,hd]
theorem DStep.val{ops:Array Oper}{dq:aO}{T:List aD}{v:aD}(ah:dN ops ⟨js (o.looksAt ops) T,dq.heap,dq.next,dq.base⟩ o=some true)(aw:rL P G o ⟨js (o.looksAt ops) T,dq.heap,dq.next,dq.base⟩=some v):DStep P G ops dq T o v:=by
 intro s aa ae au hlen bQ
 have hm:=Kw hlen bQ
 have dC:({s with cR:=js (o.looksAt ops) s.cR}:aO)=⟨js (o.looksAt ops) T,dq.heap,dq.next,dq.base⟩:=by rw[hm,←aa,←ae,←au]
 refine .inl ⟨by rw[←Kx (ks:=o.looksAt ops) Kz,dC];exact ah,cP.step fun E a w β ro ag=>?_⟩
 have dW:=ag.mask (o.looksAt ops)
 rw[dC]at dW
 have:=Ks aw E a w β ro dW
 simpa only[aa,ae]using this
theorem zdQ{ks:List Nat}{y:Operand}(ax: ∀t,y= .tmp t→t∈ks):aI G {s with cR:=js ks s.cR} y=aI G s y:=by
 cases y with
 |tmp t=>
  have hm:ks.contains t=true:=by simpa using ax t rfl
  simp only[aI,List.getD,Aa]
  cases ai:s.cR[t]? with
  |none=>rfl
  |some x=>simp only[Option.map_some,hm,if_true]
 |_=>rfl
theorem DStep.of{ops:Array Oper}{dq:aO}{T:List aD}{v:aD}(ah:dN ops ⟨js (o.looksAt ops) T,dq.heap,dq.next,dq.base⟩ o=some true)
 (h: ∀s:aO,s.heap=dq.heap→s.next=dq.next→s.base=dq.base→(∀y:Operand,(∀t,y= .tmp t→t∈o.looksAt ops)→aI G s y=aI G ⟨js (o.looksAt ops) T,dq.heap,dq.next,dq.base⟩ y)→dQ P G o s (s.put o.dst v)):DStep P G ops dq T o v:=by
 intro s aa ae au hlen bQ
 have hm:=Kw hlen bQ
 have dC:({s with cR:=js (o.looksAt ops) s.cR}:aO)=⟨js (o.looksAt ops) T,dq.heap,dq.next,dq.base⟩:=by rw[hm,←aa,←ae,←au]
 refine .inl ⟨by rw[←Kx (ks:=o.looksAt ops) Kz,dC];exact ah,h s aa ae au fun y ax=>?_⟩
 rw[←dC]
 exact(zdQ ax).symm
end
end Go.aK
namespace Go.aK
open Go
def w5(l:List Oper)(sY:List aD)(qv:List aD)(E:Nat→Prop)(T:List aD):Prop:=
 T.length=qv.length∧∀t,t<qv.length→((∀j o,l[j]? =some o→E j→o.dst≠some t)→T[t]? =qv[t]?)∧(∀j o,l[j]? =some o→E j→o.dst=some t→T[t]? =sY[j]?)
theorem w5.same{l:List Oper}{sY qv T RV:List aD}{E w6:Nat→Prop}(h:w5 l sY qv E T)(h':w5 l sY qv w6 RV)(t:Nat)(he: ∀j o,l[j]? =some o→o.dst=some t→(E j↔w6 j)):T[t]? =RV[t]? :=by
 by_cases aG:t<qv.length
 ·by_cases hx: ∃j o,l[j]? =some o∧E j∧o.dst=some t
  ·obtain⟨j,o,aa,ae,au⟩:=hx
   rw[(h.2 t aG).2 j o aa ae au,(h'.2 t aG).2 j o aa ((he j o aa au).1 ae) au]
  ·have aB: ∀j o,l[j]? =some o→E j→o.dst≠some t:=fun j o aa ae au=>hx ⟨j,o,aa,ae,au⟩
   have bd: ∀j o,l[j]? =some o→w6 j→o.dst≠some t:=fun j o aa ae au=>hx ⟨j,o,aa,(he j o aa au).2 ae,au⟩
   rw[(h.2 t aG).1 aB,(h'.2 t aG).1 bd]
 ·rw[List.getElem?_eq_none (by have:=h.1;omega),List.getElem?_eq_none (by have:=h'.1;omega)]
def w7(T:List aD)(dst:Option Nat)(v:aD):List aD:=
 match dst with
 |some d=>T.set d v
 |none=>T
theorem zdR(T:List aD)(dst:Option Nat)(v:aD):(w7 T dst v).length=T.length:=by
 cases dst<;>simp[w7]
theorem w5.put{l:List Oper}{sY qv T:List aD}{E:Nat→Prop}(h:w5 l sY qv E T){i:Nat}{o:Oper}{v:aD}(hi:l[i]? =some o)(aw:sY[i]? =some v)
 (hd: ∀j p,l[j]? =some p→E j→p.dst≠none→p.dst≠o.dst){w6:Nat→Prop}(e2: ∀j,w6 j↔E j∨j=i):w5 l sY qv w6 (w7 T o.dst v):=by
 refine⟨by rw[zdR];exact h.1,fun t aG=>⟨fun hn=>?_,fun j p af KA ak=>?_⟩⟩
 ·have aa:=(h.2 t aG).1 fun j p af KA=>hn j p af ((e2 j).2 (.inl KA))
  cases qw:o.dst with
  |none=>exact aa
  |some d=>
   have b3:d≠t:=fun e=>hn i o hi ((e2 i).2 (.inr rfl)) (by rw[qw,e])
   simp only[w7];rw[List.getElem?_set_ne b3]
   exact aa
 ·rcases (e2 j).1 KA with aa|aa
  ·have ae:=(h.2 t aG).2 j p af aa ak
   cases qw:o.dst with
   |none=>exact ae
   |some d=>
    have b3:d≠t:=fun e=>hd j p af aa (by rw[ak];simp) (by rw[ak,qw,e])
    simp only[w7];rw[List.getElem?_set_ne b3]
    exact ae
  ·subst aa
   rw[hi]at af;simp only[Option.some.injEq]at af;subst af;rw[ak];simp only[w7];rw[List.getElem?_set_self (by have:=h.1;omega),aw]
section
variable {P:Program} {G:a7} {dq:aO}
abbrev w8(ops:Array Oper)(dq:aO)(T:List aD)(o:Oper):aO:=⟨js (o.looksAt ops) T,dq.heap,dq.next,dq.base⟩
theorem DStep.row{ops:Array Oper}{T:List aD}{o:Oper}{t n:Nat}{es:List (List a1)}(ah:dN ops (w8 ops dq T o) o=some true)(h:w1 P G o (w8 ops dq T o) t n es):DStep P G ops dq T o (.av (.aN n es)):=by
 intro s aa ae au hlen bQ
 have hm:=Kw hlen bQ
 have dC:({s with cR:=js (o.looksAt ops) s.cR}:aO)=w8 ops dq T o:=by rw[hm,aa,ae,au]
 refine .inl ⟨by rw[←Kx (ks:=o.looksAt ops) Kz,dC];exact ah,dQ.Ku (t:=t) ⟨h.1,fun E a w β ro ag=>?_⟩⟩
 have dW:=ag.mask (o.looksAt ops)
 rw[dC]at dW
 exact h.2 E a w β ro dW
theorem DStep.call{ops:Array Oper}{T:List aD}{o:Oper}{x:Operand}{xs:Array Operand}{ts:Array TypeId}(an:o.op= .call {callee:=.value x,args:=xs,argTypes:=ts})(ah:dN ops (w8 ops dq T o) o=some true){f:FuncId}
 (hx:aI G (w8 ops dq T o) x= .fn (.func f) [] [])(gB:m4 P f=true){args:List aD}(h2:xs.toList.map (fun y=>hN dq.heap (aI G (w8 ops dq T o) y))=args)(o4:e3 args=true){r:aD}
 (hc:dF P G f args [] 0 fun dG bU=>dG=r∧bU=[])(ag:fE r=true)(ad:dq.base≤dq.next):DStep P G ops dq T o r:=by
 refine DStep.of ah fun s aa ae au ax=>?_
 have RX: ∀y:Operand,(y=x∨y∈xs)→∀t,y= .tmp t→t∈o.looksAt ops:=by
  intro y ax t aG;subst aG;refine List.mem_append_left _ (List.mem_filterMap.2 ⟨.tmp t,?_,rfl⟩)
  rw[an];simp only[Op.operands,Call.operands]
  rcases ax with h|h
  ·rw[←h];simp
  ·simp[h]
 refine dQ.zdP an (by rw[ax x (RX x (.inl rfl))];exact hx) gB (args:=args) ?_ o4 hc ag (by rw[ae,au];exact ad)
 rw[←h2]
 apply List.map_congr_left
 intro y hm
 rw[aa,ax y (RX y (.inr (by simpa using hm)))]
theorem DStep.cast{ops:Array Oper}{T:List aD}{o:Oper}{v bg:aD}(h:DStep P G ops dq T o v)(e:v=bg):DStep P G ops dq T o bg:=e ▸ h
end
end Go.aK
namespace Go.aK
open Go
section
variable {P:Program} {G:a7} {o:Oper} {s:aO}
def uX(P:Program)(t:TypeId):Option (TypeId × Nat × List Value):=
 match P.underlying t with
 |some (.slice e)=>match P.info? e,zeroCells P e with
  |some i,some zs=>if zs.all Value.oneCell'∧zs.length=i.size∧0<i.size then some (e,i.size,zs)else none
  |_,_=>none
 |_=>none
def nZ(P:Program)(G:a7)(s:aO)(t:TypeId)(len:Nat)(parts:List (Nat × Operand)):Option (TypeId × Nat × List (List a1)):=
 match uX P t with
 |some (e,n,zs)=>
  if len=0 then(if parts.isEmpty then some (e,n,[])else none)
  else if len*n≤16777216∧(parts.map fun p=>(p.1,aI G s p.2)).all (fun p=>(cS p.2).all (eD s.heap))then
   match j7 (fun i=>some (i*n,n)) ((List.replicate len (zs.map fun z=>aD.av (.v z))).flatten) (parts.map fun p=>(p.1,aI G s p.2))with
   |some ds=>match iP ds with
    |some rs=>some (e,n,chunk n len rs)
    |none=>none
   |none=>none
  else none
 |none=>none
theorem DG{t:TypeId}{len:Nat}{parts:Array (Nat × Operand)}(an:o.op= .buildSlice t len parts){e n:Nat}{es:List (List a1)}(h:nZ P G s t len parts.toList=some (e,n,es)):w1 P G o s e n es:=by
 unfold nZ at h
 split at h
 ·rename_i ay cI zs aG
  unfold uX at aG
  split at aG
  ·rename_i bd hu
   split at aG
   ·rename_i i zdS hi aR
    split at aG
    ·rename_i hc
     simp only[Option.some.injEq,Prod.mk.injEq]at aG;obtain⟨rfl,rfl,rfl⟩:=aG
     split at h
     ·rename_i hlen
      subst hlen
      split at h
      ·rename_i ak
       simp only[Option.some.injEq,Prod.mk.injEq]at h;obtain⟨rfl,rfl,rfl⟩:=h;refine⟨by simp,fun E a w β ro ag=>⟨.slice (some ⟨w.heap.size,0,none⟩) 0 0,[],w.alloc (.cells #[] bd),?_,?_,World.grownBy_alloc w _ none,fun b ad=>by simp[b2]at ad,by simp⟩⟩
       ·have gI:parts= #[]:=by
         apply Array.ext';simpa using ak
        subst gI;simp[execOp,an,Instr.buildSlice,run_underlying hu,sizeOf,typeInfo,hi,Instr.fill,newRow,Sem.run_bind,Array.range_zero']
       ·exact World.ownsRow_lit w #[] 0 (Nat.zero_le _) (Nat.zero_le _) (by simp)
      ·cases h
     ·rename_i hlen
      split at h
      ·rename_i Km
       split at h
       ·rename_i ds hf
        split at h
        ·rename_i rs gL
         simp only[Option.some.injEq,Prod.mk.injEq]at h;obtain⟨rfl,rfl,rfl⟩:=h
         have zdT:0<len*i.size:=Nat.mul_pos (Nat.pos_of_ne_zero hlen) hc.2.2
         exact zdy t len parts an hu (by simp[hi]) aR hc.1 hc.2.1 ⟨zdT,Km.1⟩ rfl Km.2 hf gL
        ·cases h
       ·cases h
      ·cases h
    ·cases aG
   ·cases aG
  ·cases aG
 ·cases h
end
theorem zdU{k:Nat}(h:k+1≤9223372036854775807):IntKind.i64.wrap ((k:Int)+1)=((k+1:Nat):Int):=by
 rw[gQ _ (by omega) (by omega)]
 rfl
end Go.aK
namespace Go.aK
open Go
def w9(m:Option Nat):aD→aD
 | .av (.v (.slice none 0 0))=>match m with
  |some n=>.av (.aN n [])
  |none=>.av (.v (.slice none 0 0))
 |x=>x
def rN:List (Option Nat)→List aD→List aD
 |m::ms,c::cs=>w9 m c::rN ms cs
 |_,cs=>cs
def KB(m:List (Option Nat)):aD→aD
 | .agg cs=>.agg (rN m cs)
 |x=>w9 (m.headD none) x
def aO.Ab(s:aO)(k:Nat)(m:List (Option Nat)):aO:=
 {s with cR:=match s.cR[k]? with|some x=>s.cR.set k (KB m x)|none=>s.cR}
theorem RY{w:World}{ro:Nat→Prop}{σ:Heap}{β:Nat→Value}{N:Nat}{m:Option Nat}{x:aD}{c:Value}(h:br w ro σ β N x c):br w ro σ β N (w9 m x) c:=by
 unfold w9
 split
 ·cases m with
  |none=>exact h
  |some n=>
   refine .av _ _ ?_
   cases h with
   |av _ _ h=>
    cases h;exact .aN n [] none 0 (fun _=>undef) (Nat.le_refl _) (Nat.zero_le _) (by simp) (by simp) (by simp)
 ·exact h
theorem zdV{m:List (Option Nat)}{cs:List aD}{j:Nat}{x:aD}(h:(rN m cs)[j]? =some x): ∃y p,cs[j]? =some y∧x=w9 p y:=by
 induction m generalizing cs j with
 |nil=>exact⟨x,none,by simpa[rN]using h,by unfold w9;split<;>rfl⟩
 |cons a m aX=>
  cases cs with
  |nil=>simp[rN]at h
  |cons c cs=>
   cases j with
   |zero=>simp[rN]at h;exact⟨c,a,rfl,h.symm⟩
   |succ j=>simp only[rN,List.getElem?_cons_succ]at h⊢;exact aX h
theorem zdW(m:List (Option Nat))(cs:List aD):(rN m cs).length=cs.length:=by
 induction m generalizing cs with
 |nil=>rfl
 |cons a m aX=>cases cs<;>simp[rN,aX]
theorem zdX{w:World}{ro:Nat→Prop}{σ:Heap}{β:Nat→Value}{N:Nat}{m:List (Option Nat)}{x:aD}{c:Value}(h:br w ro σ β N x c):br w ro σ β N (KB m x) c:=by
 unfold KB
 split
 ·cases h with
  |agg cs c aa ae=>
   refine .agg _ _ (by rw[aa,zdW]) fun j y af=>?_
   obtain⟨z,p,aR,rfl⟩:=zdV af;exact RY (ae j z aR)
 ·exact RY h
theorem cm.Ab{s bo:aO}(k:Nat)(m:List (Option Nat))(h:s.Ab k m=bo):cm s bo:=by
 subst h
 intro E G a w ⟨β,ro,h⟩
 unfold aO.Ab
 cases aj:s.cR[k]? with
 |none=>exact⟨β,ro,h⟩
 |some x=>
  refine⟨β,ro,h.defers,by simp[h.size],fun i y ax=>?_,h.heap,h.ib,h.trans,h.base⟩
  rw[List.getElem?_set]at ax
  split at ax
  ·rename_i e
   subst e
   split at ax
   ·simp only[Option.some.injEq]at ax
    subst ax;exact zdX (h.slot k x aj)
   ·cases ax
  ·exact h.slot i y ax
end Go.aK
namespace Go.aK
open Go
theorem cm.zdY{s bo:aO}(k e n:Nat)(aj:s.cR[k]? =some (.av (.v (.slice none 0 0))))(ad:s.base≤s.next)
 (h:({s with cR:=s.cR.set k (.aN s.next),heap:=(s.next,.row false e n [])::s.heap,next:=s.next+1}:aO)=bo):cm s bo:=by
 subst h
 intro E G a w ⟨β,ro,ag⟩
 have jl:aE s.heap s.next=none:=by
  cases ah:aE s.heap s.next with
  |none=>rfl
  |some p=>have:=ag.trans.new _ _ ah;omega
 have qx:=br.val (ag.slot k _ aj)
 have fc:=ag.new (w':=w) s.next jl ad (Nat.le_refl _) (.row false e n []) (.slice none 0 0) rfl rfl rfl (Nat.le_refl _) (fun _ _=>rfl) (fun c hc=>by simp[b2]at hc) rfl
  (.row e n [] [] (by rw[dR];exact⟨by simp,.inl ⟨⟨none,rfl,fun _ h=>(by cases h)⟩,rfl⟩⟩) (by simp) (by simp))
 refine⟨_,ro,fc.defers,by simpa using fc.size,fun i y ax=>?_,fc.heap,fc.ib,fc.trans,fc.base⟩
 rw[List.getElem?_set]at ax
 split at ax
 ·rename_i aB
  subst aB
  split at ax
  ·simp only[Option.some.injEq]at ax
   subst ax;refine .aN _ _ (Nat.lt_succ_self _) fun z bC cI dP _=>?_
   rw[qx];exact(dR _ _ _).symm
  ·cases ax
 ·exact fc.slot i y ax
end Go.aK
namespace Go.aK
open Go
def uY(σ:Heap):aD→Option a1
 | .av x=>some x
 | .aN id=>match aE σ id with
  |some (.row _ _ n es)=>some (.aN n es)
  |_=>none
 | .ref id=>match aE σ id with
  |some (.bL bO)=>bO.view
  |_=>none
 |_=>none
def Ac(σ:Heap):List aD→Option (List a1)
 |[]=>some []
 |x::r=>match uY σ x,Ac σ r with
  |some y,some l=>some (y::l)
  |_,_=>none
mutual
def jN(σ:Heap):aD→aD
 | .aN id=>match aE σ id with
  |some (.row _ _ n es)=>.av (.aN n es)
  |_=>.aN id
 | .ptr id off=>match aE σ id with
  |some (.box _ cs)=>(match Ac σ (cs.drop off)with
   |some l=>.av (.ptr l)
   |none=>.ptr id off)
  |_=>.ptr id off
 | .agg cs=>.agg (h5 σ cs)
 | .tuple cs=>.tuple (h5 σ cs)
 | .fn f p q=>.fn f (h5 σ p) (h5 σ q)
 | .av x=>.av x
 | .cV id i off=>.cV id i off
 | .dz id n=>.dz id n
 | .ref id=>match aE σ id with
  |some (.bL bO)=>(match bO.view with
   |some x=>.av x
   |none=>.ref id)
  |_=>.ref id
 | .top=>.top
def h5(σ:Heap):List aD→List aD
 |[]=>[]
 |x::r=>jN σ x::h5 σ r
end
theorem uZ(σ:Heap): ∀(l:List aD),(h5 σ l).length=l.length
 |[]=>rfl
 |x::r=>by simp[h5,uZ σ r]
theorem u0(σ:Heap): ∀{l:List aD} {j:Nat} {x:aD},(h5 σ l)[j]? =some x→∃y,l[j]? =some y∧x=jN σ y
 |[],j,x,h=>by simp[h5]at h
 |y::r,j,x,h=>by
  cases j with
  |zero=>simp[h5]at h;exact⟨y,by simp,h.symm⟩
  |succ j=>simp[h5]at h;simpa using u0 σ h
theorem RZ(σ:Heap): ∀{l:List aD} {m:List a1},Ac σ l=some m→∀{j:Nat} {x:a1},m[j]? =some x→∃y,l[j]? =some y∧uY σ y=some x
 |[],m,h,j,x,af=>by simp[Ac]at h;subst h;simp at af
 |y::r,m,h,j,x,af=>by
  simp only[Ac]at h
  split at h
  ·rename_i z l aa ae
   simp only[Option.some.injEq]at h;subst h
   cases j with
   |zero=>simp at af;subst af;exact⟨y,rfl,aa⟩
   |succ j=>simp at af;simpa using RZ σ ae af
  ·cases h
abbrev u1(ro:Nat→Prop)(σ:Heap)(β:Nat→Value):Nat→Prop:=fun b=>ro b∨Own σ β b
theorem R0{w:World}{ro:Nat→Prop}{σ:Heap}{β:Nat→Value}{N id:Nat}(ba:hh w ro σ β N){z:Bool}{t:TypeId}{n:Nat}{es:List (List a1)}(ah:aE σ id=some (.row z t n es)):cQ w (u1 ro σ β) (.aN n es) (β id):=by
 have an:=ba.c5 id _ ah
 cases an with
 |row t n es xs aa ae au=>exact aa.Kt ae (fun j x af=>(au j x af).keep (fun _ _=>rfl) fun _ h=>.inl h) fun b ad=>.inr ⟨id,_,ah,rfl,ad⟩
 |ga t n es aa=>exact aa.keep (fun _ _=>rfl) fun _ h=>.inl h
theorem R1{w:World}{ro:Nat→Prop}{σ:Heap}{β:Nat→Value}{N id:Nat}(ba:hh w ro σ β N){bO:wQ}(ah:aE σ id=some (.bL bO)){av:a1}(aw:bO.view=some av):cQ w (u1 ro σ β) av (β id):=by
 have an:=ba.c5 id _ ah
 cases an with
 |bL _ b o aa ae au=>exact bO.QQ av aw w ro _ _ o b au aa ae (fun _ h=>.inl h) (.inr ⟨id,_,ah,rfl,aa⟩)
theorem zdZ{w:World}{ro:Nat→Prop}{σ:Heap}{β:Nat→Value}{N:Nat}(ba:hh w ro σ β N){x:aD}{c:Value}{y:a1}(h:br w ro σ β N x c)(ax:uY σ x=some y):cQ w (u1 ro σ β) y c:=by
 cases h with
 |av x c hx=>
  simp only[uY,Option.some.injEq]at ax;subst ax;exact hx.keep (fun _ _=>rfl) fun _ h=>.inl h
 |aN id c aq ak=>
  simp only[uY]at ax
  split at ax
  ·rename_i z t n es ah
   simp only[Option.some.injEq]at ax;subst ax;rw[ak z t n es ah];exact R0 ba ah
  ·cases ax
 |ref id c aq ak=>
  simp only[uY]at ax
  split at ax
  ·rename_i bO ah
   rw[ak bO ah];exact R1 ba ah ax
  ·cases ax
 |_=>cases ax
theorem KC{w:World}{ro:Nat→Prop}{σ:Heap}{β:Nat→Value}{N:Nat}(ba:hh w ro σ β N){x:aD}{c:Value}(h:br w ro σ β N x c):br w (u1 ro σ β) σ β N (jN σ x) c:=by
 induction h with
 |aN id c aq ak=>
  simp only[jN]
  split
  ·rename_i z t n es ah
   rw[ak z t n es ah];exact .av _ _ (R0 ba ah)
  ·exact .aN id c aq ak
 |ptr id off c aq ak=>
  simp only[jN]
  split
  ·rename_i t cs ah
   split
   ·rename_i l KD
    obtain⟨b,ad,rfl⟩:=ak t cs ah
    have an:=ba.c5 id _ ah
    cases an with
    |box t cs b' arr aB bd cj eo=>
     rw[ad]at aB;simp only[Value.pointer.injEq,Option.some.injEq,Addr.mk.injEq,and_true]at aB;subst aB
     have at_: ∀j x,l[j]? =some x→∃y,cs[off+j]? =some y∧uY σ y=some x:=fun j x af=>by
      obtain⟨y,aa,ae⟩:=RZ σ KD af;rw[List.getElem?_drop]at aa
      exact⟨y,aa,ae⟩
     refine .av _ _ (.ptr l _ (fun j=>arr.getD (off+j) undef) (fun j x af=>?_) fun j x af=>?_)
     ·obtain⟨y,aa,_⟩:=at_ j x af
      refine⟨.inr ⟨id,_,ah,rfl,by rw[ad];rfl⟩,?_⟩
      have bG:off+j<arr.size:=by rw[cj];exact(List.getElem?_eq_some_iff.1 aa).1
      rw[addLit,cell_of_row w b (off+j) arr t (0,0) bd];simp[bG]
     ·obtain⟨y,aa,ae⟩:=at_ j x af
      exact zdZ ba (eo _ y aa) ae
   ·exact .ptr id off c aq ak
  ·exact .ptr id off c aq ak
 |av x c h=>exact .av x c (h.keep (fun _ _=>rfl) fun _ h=>.inl h)
 |agg cs c aa _ aX=>
  refine .agg _ c (by rw[uZ];exact aa) fun j x af=>?_
  obtain⟨y,ax,rfl⟩:=u0 σ af;exact aX j y ax
 |tuple cs c aa _ aX=>
  refine .tuple _ c (by rw[uZ];exact aa) fun j x af=>?_
  obtain⟨y,ax,rfl⟩:=u0 σ af;exact aX j y ax
 |cV id i off c aa ae=>exact .cV id i off c aa ae
 |dz id n c aa ae=>exact .dz id n c aa ae
 |fn f p q c d aa ae _ _ hk hl=>
  refine .fn f _ _ c d (by rw[uZ];exact aa) (by rw[uZ];exact ae) (fun j x af=>?_) (fun j x af=>?_)
  ·obtain⟨y,ax,rfl⟩:=u0 σ af
   exact hk j y ax
  ·obtain⟨y,ax,rfl⟩:=u0 σ af
   exact hl j y ax
 |ref id c aq ak=>
  simp only[jN]
  split
  ·rename_i bO ah
   split
   ·rename_i av aw
    rw[ak bO ah];exact .av _ _ (R1 ba ah aw)
   ·exact .ref id c aq ak
  ·exact .ref id c aq ak
 |top c=>exact .top c
mutual
def jO:aD→Bool
 | .av (.v _)=>true
 | .agg cs=>m8 cs
 | .tuple cs=>m8 cs
 |_=>false
def m8:List aD→Bool
 |[]=>true
 |x::r=>jO x&&m8 r
end
theorem DH: ∀{cs:List aD},m8 cs=true→∀{j:Nat} {x:aD},cs[j]? =some x→jO x=true
 |[],_,j,x,h=>by simp at h
 |y::r,ad,j,x,h=>by
  simp only[m8,Bool.and_eq_true]at ad
  cases j with
  |zero=>simp at h;subst h;exact ad.1
  |succ j=>simp at h;exact DH ad.2 h
theorem DI{w w':World}{ro ro':Nat→Prop}{σ bU:Heap}{β zQ:Nat→Value}{N M:Nat}{x:aD}{c:Value}(h:br w ro σ β N x c)(ak:jO x=true):br w' ro' bU zQ M x c:=by
 induction h with
 |av x c h=>
  cases h with
  |v _ hx=>exact .av _ _ (.v _ hx)
  |ptr=>simp[jO]at ak
  |aN=>simp[jO]at ak
  |mp=>simp[jO]at ak
  |er=>simp[jO]at ak
  |li=>simp[jO]at ak
 |agg cs c aa _ aX=>
  simp only[jO]at ak;exact .agg cs c aa fun j x af=>aX j x af (DH ak af)
 |tuple cs c aa _ aX=>
  simp only[jO]at ak;exact .tuple cs c aa fun j x af=>aX j x af (DH ak af)
 |_=>simp[jO]at ak
section
variable {P:Program} {G:a7} {s:aO}
theorem dQ.KE{o:Oper}{x:Operand}{xs:Array Operand}{ts:Array TypeId}(an:o.op= .call {callee:=.value x,args:=xs,argTypes:=ts}){f:FuncId}{p q:List aD}(hx:aI G s x= .fn (.func f) p q)
 (gB:m4 P f=true){args:List aD}(h2:h5 s.heap (p++xs.toList.map (aI G s)++q)=args)(o4:e3 args=true){r:aD}(hc:dF P G f args [] 0 fun dG u2=>dG=r∧u2=[])(hsc:jO r=true):
 dQ P G o s (s.put o.dst r):=by
 intro E a w ⟨β,ro,h⟩ zdq zdr Ke
 have lK:=h.eval x
 rw[hx]at lK
 generalize he:a.eval x=Kf at lK
 cases lK with
 |fn _ _ _ c d aa ae ak aH=>
  unfold Oper.wp;simp only[execOp,an,resolve,he,Deferred.ofValue,Sem.run_bind,Sem.run_pure,Result.andThen_ok,invoke];rw[Ds gB]
  have nS: ∀b,Own s.heap β b→b<w.heap.size:=fun b ⟨k,p,aj,ak,bf⟩=>(h.heap.c5 k p aj).hJ ak bf
  have hlen:args.length=p.length+xs.size+q.length:=by rw[←h2,uZ];simp[Nat.add_assoc]
  have eb: ∀i y,(p++xs.toList.map (aI G s)++q)[i]? =some y→br w ro s.heap β s.next y ((c++xs.map a.eval++d).getD i undef):=fun i y ax=>by
   rw[Array.getD_eq_getD_getElem?]
   rcases Nat.lt_or_ge i (p.length+xs.size)with hi|hi
   ·rw[List.getElem?_append_left (by simpa using hi)]at ax
    rw[Array.getElem?_append_left (by simpa[aa]using hi)]
    rcases Nat.lt_or_ge i p.length with mv|mv
    ·rw[List.getElem?_append_left mv]at ax
     rw[Array.getElem?_append_left (by omega),←Array.getD_eq_getD_getElem?]
     exact ak i y ax
    ·rw[List.getElem?_append_right mv,List.getElem?_map]at ax
     rw[Array.getElem?_append_right (by omega),aa]
     cases aR:xs.toList[i-p.length]? with
     |none=>simp[aR]at ax
     |some z=>
      simp only[aR,Option.map_some,Option.some.injEq]at ax;subst ax
      have pb:xs[i-p.length]? =some z:=by simpa using aR
      simp only[Array.getElem?_map,pb,Option.map_some,Option.getD_some]
      exact h.eval z
   ·rw[List.getElem?_append_right (by simpa using hi)]at ax
    rw[Array.getElem?_append_right (by simpa[aa]using hi),←Array.getD_eq_getD_getElem?]
    have:=aH _ y ax
    simpa[aa]using this
  have ho:=hc w β (u1 ro s.heap β) (c++xs.map a.eval++d) (by simp only[Array.size_append,Array.size_map];omega) (fun i y ax=>by
   rw[←h2]at ax;obtain⟨z,aR,rfl⟩:=u0 _ ax
   exact nV (KC h.heap (eb i z aR)) (m3 o4 (by rw[←h2];exact ax))) ⟨by simp[aE],by simp[aE],fun b _ ⟨_,_,ah,_⟩=>by simp[aE]at ah,fun b ad=>ad.elim (h.heap.lt b) (nS b)⟩
   (h.ib.keep (fun _ _=>rfl) fun _ h=>.inl h) (by simp[aE])
  refine Calls.mono ho fun e w' aH=>?_
  obtain⟨v,eP,fF,dL,ro',cI,rfl,⟨rfl,rfl⟩,dA,hO,cD⟩:=aH
  have lf: ∀b,¬Own ([]:Heap) β b:=fun b ⟨_,_,ah,_⟩=>by simp[aE]at ah
  have lL: ∀b,b<w.heap.size→w'.heap[b]? =w.heap[b]? :=fun b ad=>cD.frame b ad (lf b)
  have ah:=h.grow (w':=w') (ro':=ro) cD.os cD.tape cD.output cD.size lL (fun _ h=>h) (fun _ h=>.inl h)
  exact Ke _ _ ⟨β,ro,ah.put o.dst _ _ (DI dA hsc)⟩
theorem zd0{o:Oper}{f:FuncId}{p q:Array Operand}(an:o.op= .makeFunc (.func f) p q):cP P G o s (.fn (.func f) (p.toList.map (aI G s)) (q.toList.map (aI G s))):=
 fun _ a w β ro ag=>by
  refine⟨.func (.func f) (p.map a.eval) (q.map a.eval),by simp[execOp,an,Instr.makeFunc],.fn _ _ _ _ _ (by simp) (by simp) (fun j x af=>?_) (fun j x af=>?_)⟩<;>
  ·rw[List.getElem?_map]at af
   rw[Array.getD_eq_getD_getElem?,Array.getElem?_map]
   simp only[Array.getElem?_toList]at af
   obtain⟨z,aR,rfl⟩:=Option.map_eq_some_iff.1 af;simp only[aR,Option.map_some,Option.getD_some];exact ag.eval z
end
end Go.aK
namespace Go.aK
open Go
inductive Hint (P:Program) (G:a7):Type 1 where
 |run (n:Nat)
 |cast (u v:aD) (h:u=v)
 |idx {α:Type} (C:α→List a1) (l:List α) (n j:Nat) (e:α) (h:l[j]? =some e)
 |R2 (b:ByteArray) (j:Nat) (u:UInt8) (h:b.data.toList[j]? =some u)
 |len {α:Type} (C:α→List a1) (l:List α) (n:Nat)
 |call (f:FuncId) (args:List aD) (r:aD) (bU:Heap) (K:Nat) (h:dF P G f args [] 0 fun dG u2=>dG=r∧u2=bU)
 |take {α:Type} (C:α→List a1) (l:List α) (n k:Nat) (h:k≤l.length)
 |R3 {α:Type} (C:α→List a1) (l:List α) (e n:Nat)
 |app {α:Type} (C:α→List a1) (l m:List α) (id e n bytes:Nat) (h:l.length+m.length≤maxLen∧(l.length+m.length)*bytes≤140737488355328)
 |R4 (mx:Bool) (a b:Int)
 |lit (e n:Nat) (es:List (List a1))
 |row (e n:Nat) (es:List (List a1))
 |R5 (b:ByteArray)
 |Ab (k:Nat) (m:List (Option Nat))
 |m7 (id:Nat)
 |R6 {α:Type} (C:α→List a1) (l:List α) (id n j:Nat) (h:j<l.length)
 |R7 {α:Type} (C:α→List a1) (l:List α) (id n:Nat)
 |R8 {α:Type} (C:α→List a1) (l:List α) (id n j off k:Nat) (e:α) (h:l[j]? =some e)
 |R9 {α:Type} (C:α→List a1) (l:List α) (id n j off:Nat) (e:α) (h:l[j]? =some e)
 |mk {α:Type} (C:α→List a1) (d:α) (m c e n bytes:Nat) (h:m≤c∧c≤maxLen∧bytes*c≤281474976710656)
 |Sa (j:Nat)
 |Sb {α:Type} (C:α→List a1) (l:List α) (n:Nat) (lo hi:Option Nat) (aa:lo.getD 0≤hi.getD l.length) (ae:hi.getD l.length≤l.length)
 |Sc (b:ByteArray) (lo hi:Option Nat) (aa:lo.getD 0≤hi.getD b.size) (ae:hi.getD b.size≤b.size)
 |slot (k:Nat) (u v:aD) (h:u=v)
 |KF (k e n:Nat)
 |Sd {α:Type} (C:α→List a1) (l:List α) (id n j off:Nat) (e:α) (h:l[j]? =some e)
 |Se {α:Type} (C:α→List a1) (l:List α) (id n j off:Nat) (e ay:α) (h:l[j]? =some e)
 |Sf
 |KE (f:FuncId) (p q args:List aD) (r:aD) (h:dF P G f args [] 0 fun dG u2=>dG=r∧u2=[])
def xa:a1→a1
 | .aN _ []=>.v (.slice none 0 0)
 | .li _ []=>.v (.slice none 0 0)
 |x=>x
theorem Sg{w:World}{ro:Nat→Prop}{x:a1}{v:Value}(h:xa x= .v v)(aw:v.oneCell'=true):cQ w ro x v:=by
 unfold xa at h
 split at h
 ·rename_i n
  simp only[a1.v.injEq]at h;subst h;exact .aN n [] none 0 (fun _=>undef) (Nat.le_refl _) (Nat.zero_le _) (by simp) (by simp) (by simp)
 ·rename_i i
  simp only[a1.v.injEq]at h;subst h;exact .li i [] _ (.aN (bY i) [] none 0 (fun _=>undef) (Nat.le_refl _) (Nat.zero_le _) (by simp) (by simp) (by simp))
 ·subst h
  exact .v _ aw
section
variable {P:Program} {G:a7} {o:Oper} {s:aO}
theorem zd1{α:Type}(C:α→List a1)(d:α)(m c:Nat){t:TypeId}{x y:Operand}(an:o.op= .makeSlice t x y){e n bytes:Nat}(aG:qp P t=some (e,n,bytes)){zs:List Value}(aR:zeroCells P e=some zs)(sT:zs.all Value.oneCell'=true)
 (hd:zs.map a1.v=(C d).map xa)(hx:aI G s x=iQ (m:Int))(ax:aI G s y=iQ (c:Int))(bM:m≤c∧c≤maxLen∧bytes*c≤281474976710656):
 w1 P G o s e n ((List.replicate m d).map C):=by
 obtain⟨i,z,hu,hi,Sh,iw,jr,e9,hn⟩:=qc aG
 obtain⟨iv,_,o0,zU,hp,pb⟩:=zJ (P:=P) aR default
 have Si:z.cells=zs.toArray:=by
  rw[hi]at hp;simp only[Option.some.injEq]at hp;subst hp;rw[Sh]at pb;simp only[Option.some.injEq]at pb;subst pb;exact o0
 have mo:zs.length=n:=by rw[←e9,Si];simp
 have nX:(C d).length=n:=by rw[←mo];have:=congrArg List.length hd;simpa using this.symm
 have nR: ∀q∈(List.replicate m d).map C,q.length=n:=by
  intro q aH;rw[List.mem_map]at aH;obtain⟨u,hu,rfl⟩:=aH;rw[List.mem_replicate]at hu;rw[hu.2];exact nX
 refine⟨nR,fun E a w β ro ag=>?_⟩
 have KG:(c:Int)≤9223372036854775807:=by
  have h:=bM.2.1
  simp only[maxLen]at h;omega
 have z6:(i.bytes:Int)*(c:Int)≤281474976710656:=by
  have h:((i.bytes*c:Nat):Int)≤281474976710656:=by rw[jr];have:=bM.2.2;omega
  rwa[Int.natCast_mul]at h
 have cq:=run_make (P:=P) w t e i z hu hi Sh .i64 .i64 (m:Int) (c:Int) (by omega) (by have:=bM.1;omega) z6 KG
 simp only[Int.toNat_natCast,iw]at cq
 refine⟨.slice (some ⟨w.heap.size,0,none⟩) m c,(madeCells z.cells (c*n)).toList.take (m*n),_,by simp only[execOp,an,ag.ee hx,ag.ee ax,Sem.run_bind,cq,Result.andThen_ok,Sem.run_pure],⟨?_,.inr ⟨w.heap.size,c,madeCells z.cells (c*n),by rw[List.length_map,List.length_replicate],Nat.zero_le _,heap_alloc_new w _,by rw[List.length_map,List.length_replicate];exact bM.1,bM.2.1,size_madeCells _ _,by rw[List.length_map,List.length_replicate]⟩⟩,World.grownBy_alloc w _ none,fun b bf=>?_,fun j x af=>?_⟩
 ·rw[List.length_take,Array.length_toList,size_madeCells,List.length_map,List.length_replicate,Nat.min_eq_left (Nat.mul_le_mul_right _ bM.1)]
 ·simp only[b2]at bf
  split at bf
  ·cases bf
  ·simp at bf;omega
 ·have cL:j<m*n:=by
   have:=(List.getElem?_eq_some_iff.1 af).1
   rwa[j2 nR,List.length_map,List.length_replicate]at this
  have hm:j=(j/ n)*n+j%n:=by rw[Nat.mul_comm];exact(Nat.div_add_mod j n).symm
  have nW:j%n<n:=Nat.mod_lt _ hn
  have zd2:j/ n<m:=by rw[Nat.div_lt_iff_lt_mul hn];exact cL
  rw[hm,rq nR (i:=j/ n) (e:=C d) (by simp[zd2]) (j%n) nW]at af
  have au:j%n<zs.length:=by omega
  have zI:j<c*n:=Nat.lt_of_lt_of_le cL (Nat.mul_le_mul_right _ bM.1)
  have aB:((madeCells z.cells (c*n)).toList.take (m*n)).getD j undef=zs[j%n]:=by
   simp[List.getD,cL,madeCells,Si,zI,mo,List.getElem?_eq_getElem au]
  rw[aB]
  have Sj:=congrArg (·[j%n]?) hd
  simp only[List.getElem?_map,af,List.getElem?_eq_getElem au,Option.map_some,Option.some.injEq]at Sj
  refine Sg Sj.symm ?_
  rw[List.all_eq_true]at sT;exact sT _ (List.getElem_mem au)
end
section
variable {P:Program} {G:a7} {o:Oper} {s:aO}
theorem Sk(j:Nat){t:TypeId}{x i:Operand}(an:o.op= .index t x i){len e:Nat}(hu:P.underlying t=some (.array len e))(hsc:scalar P e=true)(bM:(P.info? e).map (·.size)=some 1)(hi:aI G s i=iQ (j:Int)){cs:List aD}(hx:aI G s x= .agg cs){v:aD}(aw:cs[j]? =some v)(af:j<len):cP P G o s v:=
 fun _ a w β ro ag=>by
  have h:=ag.eval x
  rw[hx]at h;generalize he:a.eval x=c at h
  cases h with
  |agg _ c ai hc=>
   have bG:j<c.size:=by have:=(List.getElem?_eq_some_iff.1 aw).1;omega
   have zX:(sizeOf e).run P w= .ok 1 w:=by
    cases hi:P.info? e with
    |none=>simp[hi]at bM
    |some i=>simp[hi]at bM;simp[sizeOf,typeInfo,hi,bM]
   refine⟨c[j],?_,by simpa[bG]using hc _ v aw⟩
   simp[execOp,an,he,ag.ee hi,Instr.index,asIntOf,run_underlying hu,zX,part,zD hsc,bG,af]
end
section
variable {P:Program} {G:a7}
def DJ:Hint P G→aD
 | .run _=>.top
 | .cast u _ _=>u
 | .idx C l n j _ _=>.tuple [.av (.aN n (l.map C)),iQ (j:Int)]
 | .R2 b j _ _=>.tuple [vs b,iQ (j:Int)]
 | .len C l n=>.av (.aN n (l.map C))
 | .call f args _ _ _ _=>.tuple (.fn (.func f) [] []::args)
 | .take C l n k _=>.tuple [.av (.aN n (l.map C)),iQ (k:Int)]
 | .R3 C l _ n=>.av (.aN n (l.map C))
 | .app C l m id _ n _ _=>.tuple [.aN id,.av (.aN n (l.map C)),.av (.aN n (m.map C))]
 | .R4 _ a b=>.tuple [iQ a,iQ b]
 | .lit _ n es=>.av (.aN n es)
 | .row _ n es=>.av (.aN n es)
 | .R5 b=>vs b
 | .Ab _ _=>.top
 | .m7 _=>.top
 | .R6 C l id n j _=>.tuple [.aN id,.av (.aN n (l.map C)),iQ (j:Int)]
 | .R7 C l id n=>.tuple [.aN id,.av (.aN n (l.map C))]
 | .R8 C l id n j off _ _ _=>.tuple [.cV id j off,.av (.aN n (l.map C))]
 | .R9 C l id n j off _ _=>.tuple [.cV id j off,.av (.aN n (l.map C))]
 | .mk C d m c _ _ _ _=>.tuple [iQ (m:Int),iQ (c:Int),.av (.ptr ((C d).map xa))]
 | .Sa j=>iQ (j:Int)
 | .Sb C l n lo hi _ _=>.tuple [.av (.aN n (l.map C)),(match lo with|some k=>iQ (k:Int)|none=>.top),(match hi with|some k=>iQ (k:Int)|none=>.top)]
 | .Sc b lo hi _ _=>.tuple [vs b,(match lo with|some k=>iQ (k:Int)|none=>.top),(match hi with|some k=>iQ (k:Int)|none=>.top)]
 | .slot _ u _ _=>u
 | .KF _ _ _=>.top
 | .Sd C l id n j off _ _=>.tuple [.cV id j off,.av (.aN n (l.map C))]
 | .Se C l id n j off _ ay _=>.tuple [.cV id j off,.av (.aN n (l.map C)),.av (.ptr (C ay))]
 | .Sf=>.top
 | .KE f p q args _ _=>.tuple (.fn (.func f) p q::args)
def rowOf(σ:Heap)(id n:Nat):Option (TypeId × List (List a1)):=
 match aE σ id with
 |some (.row false t m es)=>match Nat.beq m n with
  |true=>some (t,es)
  |false=>none
 |_=>none
def qy(P:Program)(G:a7)(o:Oper)(s:aO):Hint P G→Option (aD × aO)
 | .cast _ v _=>match rL P G o s with
  |some a=>some (a,s.put o.dst v)
  |none=>none
 | .idx C _ n _ e _=>match o.op with
  | .indexAddr t x i=>match j6 P t with
   |some cI=>match Nat.beq cI n with
    |true=>some (.tuple [aI G s x,aI G s i],s.put o.dst (.av (.ptr (C e))))
    |false=>none
   |none=>none
  |_=>none
 | .R2 _ _ u _=>match o.op with
  | .index t x i=>match isStr P t with
   |true=>some (.tuple [aI G s x,aI G s i],s.put o.dst (.av (.v (.int .u8 (u.toNat:Int)))))
   |false=>none
  |_=>none
 | .len _ l _=>match o.op with
  | .call c=>match c.callee,c.args.toList,c.argTypes.toList with
   | .builtin .len,[x],[t]=>match isSlice P t with
    |true=>some (aI G s x,s.put o.dst (iQ (l.length:Int)))
    |false=>none
   |_,_,_=>none
  |_=>none
 | .call f _ r bU K _=>match o.op with
  | .call c=>match c.callee with
   | .value x=>match m4 P f&&(e3 (c.args.toList.map fun y=>hN s.heap (aI G s y))&&(gA K r&&(lb K bU&&Nat.ble s.base s.next)))with
    |true=>some (.tuple (aI G s x::c.args.toList.map fun y=>hN s.heap (aI G s y)),{s with heap:=ld s.next bU++s.heap,next:=s.next+K}.put o.dst (qn s.next r))
    |false=>none
   |_=>none
  |_=>none
 | .take C l n k _=>match o.op with
  | .slice t x none (some y) none=>match j6 P t with
   |some cI=>match Nat.beq cI n with
    |true=>some (.tuple [aI G s x,aI G s y],s.put o.dst (.av (.aN n ((l.take k).map C))))
    |false=>none
   |none=>none
  |_=>none
 | .R3 _ _ _ _=>none
 | .app C l m id e n bytes _=>match o.op with
  | .call c=>match c.callee,c.args.toList,c.argTypes.toList with
   | .builtin .append,[x,y],[t,bC]=>match qp P t with
    |some (ay,cI,b')=>match Nat.beq t bC&&(Nat.beq ay e&&(Nat.beq cI n&&(Nat.beq b' bytes&&(Nat.ble s.base id&&Nat.blt id s.next)))),rowOf s.heap id n with
     |true,some (bd,es)=>match Nat.beq bd e with
      |true=>some (.tuple [aI G s x,.av (.aN n es),aI G s y],aO.put ⟨ef id s.cR,(id,.row false e n ((l++m).map C))::du id s.heap,s.next,s.base⟩ o.dst (.aN id))
      |false=>none
     |_,_=>none
    |none=>none
   |_,_,_=>none
  |_=>none
 | .R4 mx a b=>match o.op with
  | .call c=>match c.callee,c.args.toList,mx with
   | .builtin .min,[x,y],false=>some (.tuple [aI G s x,aI G s y],s.put o.dst (iQ (if b<a then b else a)))
   | .builtin .max,[x,y],true=>some (.tuple [aI G s x,aI G s y],s.put o.dst (iQ (if b>a then b else a)))
   |_,_,_=>none
  |_=>none
 | .lit e n es=>match o.op with
  | .buildSlice t len parts=>match nZ P G s t len parts.toList with
   |some (ay,cI,dP)=>match Nat.beq ay e&&Nat.beq cI n with
    |true=>some (.av (.aN n dP),s.put o.dst (.av (.aN n es)))
    |false=>none
   |none=>none
  |_=>none
 | .row e n es=>match o.op with
  | .buildSlice t len parts=>match nZ P G s t len parts.toList with
   |some (ay,cI,dP)=>match Nat.beq ay e&&(Nat.beq cI n&&Nat.ble s.base s.next)with
    |true=>some (.av (.aN n dP),{s with heap:=(s.next,.row false e n es)::s.heap,next:=s.next+1}.put o.dst (.aN s.next))
    |false=>none
   |none=>none
  |_=>none
 | .R5 b=>match o.op with
  | .range t x=>match isStr P t&&Nat.ble s.base s.next with
   |true=>some (aI G s x,{s with heap:=(s.next,.bL (qu b 0))::s.heap,next:=s.next+1}.put o.dst (.ref s.next))
   |false=>none
  |_=>none
 | .R6 _ _ id n j _=>match o.op with
  | .indexAddr t x i=>match j6 P t,rowOf s.heap id n with
   |some cI,some (_,es)=>match Nat.beq cI n with
    |true=>some (.tuple [aI G s x,.av (.aN n es),aI G s i],s.put o.dst (.cV id j 0))
    |false=>none
   |_,_=>none
  |_=>none
 | .R7 _ l id n=>match o.op with
  | .call c=>match c.callee,c.args.toList,c.argTypes.toList with
   | .builtin .len,[x],[t]=>match isSlice P t,rowOf s.heap id n with
    |true,some (_,es)=>some (.tuple [aI G s x,.av (.aN n es)],s.put o.dst (iQ (l.length:Int)))
    |_,_=>none
   |_,_,_=>none
  |_=>none
 | .R8 C _ id n _ off k e _=>match o.op with
  | .load t x=>match mh P t,rowOf s.heap id n with
   |some bj,some (_,es)=>match Nat.beq bj k&&(Nat.ble 1 k&&Nat.ble k ((C e).drop off).length)with
    |true=>some (.tuple [aI G s x,.av (.aN n es)],s.put o.dst (.agg ((((C e).drop off).map aD.av).take k)))
    |false=>none
   |_,_=>none
  |_=>none
 | .R9 C _ id n _ off e _=>match o.op with
  | .load t x=>match scalar P t,rowOf s.heap id n,(C e).drop off with
   |true,some (_,es),v::_=>some (.tuple [aI G s x,.av (.aN n es)],s.put o.dst (.av v))
   |_,_,_=>none
  |_=>none
 | .Sb C l n lo hi _ _=>match o.op with
  | .slice t x Ad Ae none=>match j6 P t,Ad.isSome==lo.isSome&&Ae.isSome==hi.isSome with
   |some cI,true=>match Nat.beq cI n with
    |true=>some (.tuple [aI G s x,(match Ad with|some y=>aI G s y|none=>.top),(match Ae with|some y=>aI G s y|none=>.top)],s.put o.dst (.av (.aN n (((l.take (hi.getD l.length)).drop (lo.getD 0)).map C))))
    |false=>none
   |_,_=>none
  |_=>none
 | .Sc b lo hi _ _=>match o.op with
  | .slice t x Ad Ae none=>match isStr P t&&(Ad.isSome==lo.isSome&&Ae.isSome==hi.isSome)with
   |true=>some (.tuple [aI G s x,(match Ad with|some y=>aI G s y|none=>.top),(match Ae with|some y=>aI G s y|none=>.top)],s.put o.dst (vs (b.extract (lo.getD 0) (hi.getD b.size))))
   |false=>none
  |_=>none
 | .Sa j=>match o.op with
  | .index t x i=>match P.underlying t,aI G s x with
   |some (.array len e),.agg cs=>match cs[j]?,scalar P e&&(Nat.blt j len&&((P.info? e).map (·.size)==some 1))with
    |some v,true=>some (aI G s i,s.put o.dst v)
    |_,_=>none
   |_,_=>none
  |_=>none
 | .mk C d m _ e n bytes _=>match o.op with
  | .makeSlice t x y=>match qp P t,zeroCells P e with
   |some (ay,cI,b'),some zs=>match Nat.beq ay e&&(Nat.beq cI n&&(Nat.beq b' bytes&&(zs.all Value.oneCell'&&Nat.ble s.base s.next)))with
    |true=>some (.tuple [aI G s x,aI G s y,.av (.ptr (zs.map a1.v))],{s with heap:=(s.next,.row false e n ((List.replicate m d).map C))::s.heap,next:=s.next+1}.put o.dst (.aN s.next))
    |false=>none
   |_,_=>none
  |_=>none
 | .Sd _ _ id n j off _ _=>match o.op with
  | .fieldAddr t x f=>match sS P t f,rowOf s.heap id n with
   |some k,some (_,es)=>some (.tuple [aI G s x,.av (.aN n es)],s.put o.dst (.cV id j (off+k)))
   |_,_=>none
  |_=>none
 | .Se C l id n j off e ay _=>match o.op with
  | .store t p x=>match rowOf s.heap id n,iP (cS (aI G s x))with
   |some (bt,es),some vs=>match((P.info? t).map (·.size)==some vs.length)&&Nat.ble (off+vs.length) n with
    |true=>some (.tuple [aI G s p,.av (.aN n es),.av (.ptr (ek (C e) off vs))],{s with heap:=eM s.heap id (.row false bt n ((l.set j ay).map C))}.put o.dst .top)
    |false=>none
   |_,_=>none
  |_=>none
 | .Sf=>match o.op with
  | .makeFunc (.func f) p q=>some (.top,s.put o.dst (.fn (.func f) (p.toList.map (aI G s)) (q.toList.map (aI G s))))
  |_=>none
 | .KE f p q _ r _=>match o.op with
  | .call c=>match c.callee with
   | .value x=>match m4 P f&&(e3 (h5 s.heap (p++c.args.toList.map (aI G s)++q))&&jO r)with
    |true=>some (.tuple (aI G s x::h5 s.heap (p++c.args.toList.map (aI G s)++q)),s.put o.dst r)
    |false=>none
   |_=>none
  |_=>none
 |_=>none
theorem Sl{α:Type}{a:Array α}{x:α}(h:a.toList=[x]):a= #[x]:=by apply Array.ext';simpa using h
theorem Af{α:Type}{a:Array α}{x y:α}(h:a.toList=[x,y]):a= #[x,y]:=by apply Array.ext';simpa using h
end
end Go.aK
