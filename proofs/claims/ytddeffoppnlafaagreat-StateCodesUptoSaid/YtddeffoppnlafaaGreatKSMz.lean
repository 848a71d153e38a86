/- The AV calculus, part K: append, make, cuts of slices and strings, small builtins, conversions. Conditions: none. -/
import Derived.Test.YtddeffoppnlafaaGreatKSMj
import Derived.Maps.AppendAt
import Derived.Orders
import Derived.Laws.RangeAny
import Derived.Laws.RangeString
import Derived.LoopN
namespace Go.aK
open Go
def h0(σ:Heap)(n:Nat):aC→Option (List (List aU))
 | .ad (.aq m es)=>if m=n then some es else none
 | .ad (.v (.slice none 0 0))=>some []
 | .ad (.li i l)=>if du i=n then some (l.map (df i))else none
 | .aq id=>match aE σ id with
  |some (.row _ _ m es)=>if m=n then some es else none
  |_=>none
 |_=>none
section
variable {P:Program} {G:aR} {o:Oper} {s:aQ}
theorem de.elems{w:World}{ro:Nat→Prop}{n:Nat}{es:List (List aU)}{c:Value}(h:de w ro (.aq n es) c):
 ∃b cap,c= .slice b es.length cap∧(∀e∈es,e.length=n)∧(b=none→es=[])∧∃f:Nat→Value,(∀a,b=some a→∀j,j<es.length*n→w.cell? (a.add j)=some (f j))∧∀j x,es.flatten[j]? =some x→de w ro x (f j):=by
 cases h with
 |aq _ _ b cap f ab ae aw aM bn=>
  refine⟨b,cap,rfl,aw,fun ag=>?_,f,fun a a6 j aj=>?_,bn⟩
  ·rcases Nat.eq_zero_or_pos es.length with h|h
   ·exact List.eq_nil_of_length_eq_zero h
   ·obtain⟨a,a6,_⟩:=aM h
    rw[ag]at a6;cases a6
  ·have ar:0<es.length:=by
    rcases Nat.eq_zero_or_pos es.length with h|h
    ·rw[h]at aj;simp at aj
    ·exact h
   obtain⟨bb,LP,hc⟩:=aM ar;rw[a6]at LP;simp only[Option.some.injEq]at LP;subst LP;exact(hc j aj).2
theorem x5{w:World}{ro:Nat→Prop}{σ:Heap}{β:Nat→Value}{N:Nat}(aV:gI w ro σ β N){x:aC}{c:Value}(h:bA w ro σ β N x c){n:Nat}{es:List (List aU)}(he:h0 σ n x=some es):
 ∃b cap,c= .slice b es.length cap∧(∀e∈es,e.length=n)∧(b=none→es=[])∧∃f:Nat→Value,(∀a,b=some a→∀j,j<es.length*n→w.cell? (a.add j)=some (f j))∧∀j x,es.flatten[j]? =some x→de w ro x (f j):=by
 cases h with
 |ad x c hx=>
  cases x with
  |v y=>
   cases hx
   cases c with
   |slice a l ht=>
    cases a with
    |none=>
     cases l with
     |zero=>
      cases ht with
      |zero=>
       simp[h0]at he;subst he;exact⟨none,0,rfl,by simp,fun _=>rfl,fun _=>undef,by simp,by simp⟩
      |succ=>simp[h0]at he
     |succ=>simp[h0]at he
    |some=>simp[h0]at he
   |_=>simp[h0]at he
  |ptr=>simp[h0]at he
  |mp=>simp[h0]at he
  |ei=>simp[h0]at he
  |li i l=>
   simp only[h0]at he
   split at he
   ·rename_i hm
    subst hm;simp only[Option.some.injEq]at he;subst he
    cases hx with
    |li _ _ _ hx=>exact hx.elems
   ·cases he
  |aq m eD=>
   simp only[h0]at he
   split at he
   ·rename_i hm
    subst hm;simp only[Option.some.injEq]at he;subst he;exact hx.elems
   ·cases he
 |aq id c av ar=>
  simp only[h0]at he
  split at he
  ·rename_i z t m eD ai
   split at he
   ·rename_i hm
    subst hm;simp only[Option.some.injEq]at he;subst he;rw[ar z t _ _ ai]
    have dS:=aV.dq id _ ai
    cases dS with
    |row _ _ _ xs ab ae aw=>
     rcases ab.2 with⟨⟨b,az,_⟩,aT⟩|⟨g,cap,cur,az,hc,zc5,hle,jN,fj,lU⟩
     ·have:eD=[]:=List.eq_nil_of_length_eq_zero aT
      subst this;rw[az];exact⟨b,0,rfl,by simp,fun _=>rfl,fun _=>undef,by simp,by simp⟩
     ·rw[az]
      refine⟨_,_,rfl,ae,by simp,fun j=>xs.getD j undef,fun a a6 j aj=>?_,aw⟩
      simp only[Option.some.injEq]at a6;subst a6;rw[addLit,Nat.zero_add,cell_of_row w g j cur t (0,0) zc5]
      have hx:xs[j]? =cur[j]? :=by rw[←lU,List.getElem?_take,if_pos aj];simp
      have m6:j<xs.length:=by rw[ab.1];exact aj
      rw[←hx];simp[List.getD,List.getElem?_eq_getElem m6]
    |fW _ _ _ ab=>exact ab.elems
   ·cases he
  ·cases he
 |_=>simp[h0]at he
theorem LQ{w:World}(t ty e:TypeId){i:TypeInfo}{z:Value}{n bytes:Nat}(aJ:P.underlying t=some (.slice e))(hi:P.info? e=some i)(aT:i.zero=some z)(hR:i.size=n)(jQ:i.bytes=bytes)(iu:z.cells.size=n)(hn:0<n)
 {v:Value}{len:Nat}{xs:List Value}(dM:kV w e n v len xs){b:Option Addr}{m cap:Nat}{news:List Value}(av:news.length=m*n)(ag:b=none→m=0)(zc6: ∀a,b=some a→∀j u,news[j]? =some u→w.cell? (a.add j)=some u)
 (ab: ∀u∈news,u.oneCell'=true)(uQ:len+m≤maxLen)(F3:(len+m)*bytes≤140737488355328):
 ∃bu w',(Builtin.append_ #[t,t] ty #[v,.slice b m cap]).run P w= .ok bu w'∧kV w' e n bu (len+m) (xs++news)∧w.grownBy w' (cz v)∧(∀k,cz bu=some k→cz v=some k∨w.heap.size≤k):=by
 by_cases hm:m=0
 ·subst hm
  have s9:news=[]:=List.eq_nil_of_length_eq_zero (by simpa using av)
  subst s9;refine⟨v,w,?_,by simpa using dM,World.grownBy.refl w _,fun k an=>.inl an⟩
  have F4:(Builtin.firstCells n 0 (.slice b 0 cap)).run P w= .ok #[] w:=by
   cases b with
   |none=>simp[Builtin.firstCells]
   |some a=>simp[Builtin.firstCells,loadCells,loadCellsFrom]
  rcases dM.2 with⟨⟨c,rfl,_⟩,rfl⟩|⟨g,ht,cur,rfl,_,_,hle,_⟩
  ·cases c<;>simp[Builtin.append_,run_underlying aJ,sizeOf,typeInfo,hi,hR,Builtin.lenOf,F4,storeCells]
  ·simp[Builtin.append_,run_underlying aJ,sizeOf,typeInfo,hi,hR,Builtin.lenOf,F4,storeCells,hle]
 ·cases b with
  |none=>exact absurd (ag rfl) hm
  |some a=>
   have fx:=zc6 a rfl
   have own:w.ownsRow 0 e n v len xs→_:=fun h6=>run_append_own_at (P:=P) w 0 t ty e i z n bytes aJ hi aT hR jQ iu hn v len xs h6 a m cap news av fx ab uQ F3 (Nat.zero_le _)
   have fin:w.ownsRow 0 e n v len xs→v.ownBlock=cz v→∃bu w',(Builtin.append_ #[t,t] ty #[v,.slice (some a) m cap]).run P w= .ok bu w'∧kV w' e n bu (len+m) (xs++news)∧w.grownBy w' (cz v)∧(∀k,cz bu=some k→cz v=some k∨w.heap.size≤k):=by
    intro h6 bc;obtain⟨bu,w',g1,g2,g3,_,g5⟩:=own h6;refine⟨bu,w',g1,.EK g2,bc ▸ g3,fun k an=>?_⟩
    have fk:bu.ownBlock=some k:=by
     cases bu with
     |slice c l p=>
      cases c with
      |none=>simp[cz]at an
      |some c=>
       simp only[cz]at an
       split at an
       ·cases an
       ·simpa[Value.ownBlock]using an
     |pointer c=>
      rcases g2.2 with⟨h,_⟩|⟨_,_,_,h,_⟩<;>cases h
     |map c=>
      rcases g2.2 with⟨h,_⟩|⟨_,_,_,h,_⟩<;>cases h
     |_=>simp[cz]at an
    rcases g5 with h|h
    ·rw[h,bc]at fk;exact .inl fk
    ·rw[h]at fk;simp at fk;exact .inr (by omega)
   rcases dM.2 with⟨⟨c,rfl,_⟩,rfl⟩|⟨g,ht,cur,rfl,Cb,ai,hle,jN,fj,lU⟩
   ·have hx:xs=[]:=List.eq_nil_of_length_eq_zero (by simpa using dM.1)
    subst hx
    cases c with
    |none=>exact fin (World.ownsRow_nil w 0 e n) rfl
    |some c=>
     have dG:=run_append_grow (P:=P) w t ty e i z aJ hi aT c 0 0 [] (by simp) (by simp) a m cap news (by rw[hR];exact av) fx (by omega) (by simp only[maxLen]at uQ;omega) (growslice_fits (by omega) (by rw[jQ];exact F3))
     have h6:=World.ownsRow_made (e:=e) (size:=n) w.drew (news.toArray++Builtin.zeroCells z.cells (grownCap w (0+m) 0 e-(0+m))) (grownCap w (0+m) 0 e) (base:=0) (Nat.zero_le _) (grownCap_le_maxLen w (0+m) 0 e uQ) (by
      have:=grownCap_ge w (0+m) 0 e
      simp only[Array.size_append,List.size_toArray,size_zeroCells,iu,av,←Nat.add_mul]
      congr 1
      omega)
     refine⟨_,_,dG,?_,⟨rfl,rfl,rfl,by simp,fun k an _=>Go.RowKit.Below.heap_alloc w.drew _ k an⟩,fun k an=>?_⟩
     ·have jP:=grownCap_ge w (0+m) 0 e
      refine⟨by simp[av],.inr ⟨w.heap.size,grownCap w (0+m) 0 e,_,rfl,by omega,heap_alloc_new w.drew _,jP,grownCap_le_maxLen w (0+m) 0 e uQ,?_,?_⟩⟩
      ·simp only[Array.size_append,List.size_toArray,size_zeroCells,iu,av,←Nat.add_mul,List.length_nil,Nat.zero_add]at jP⊢
       congr 1
       omega
      ·simp only[Array.toList_append,List.nil_append,Nat.zero_add]
       rw[←av];exact List.take_left
     ·simp only[cz]at an
      split at an
      ·cases an
      ·simp at an;exact .inr (by omega)
   ·exact fin ⟨dM.1,.inr ⟨g,ht,cur,rfl,Nat.zero_le _,ai,hle,jN,fj,lU⟩⟩ (by simp[Value.ownBlock,cz,Nat.ne_of_gt Cb])
def qa(P:Program)(t:TypeId):Option (Nat × Nat × Nat):=
 match P.underlying t with
 |some (.slice e)=>match P.info? e with
  |some i=>match i.zero with
   |some z=>if z.cells.size=i.size∧0<i.size then some (e,i.size,i.bytes)else none
   |none=>none
  |none=>none
 |_=>none
theorem rD{t e n bytes:Nat}(h:qa P t=some (e,n,bytes)): ∃i z,P.underlying t=some (.slice e)∧P.info? e=some i∧i.zero=some z∧i.size=n∧i.bytes=bytes∧z.cells.size=n∧0<n:=by
 unfold qa at h
 split at h
 ·rename_i aF hu
  split at h
  ·rename_i i hi
   split at h
   ·rename_i z aT
    split at h
    ·rename_i hc
     simp only[Option.some.injEq,Prod.mk.injEq]at h;obtain⟨rfl,rfl,rfl⟩:=h;exact⟨i,z,hu,hi,aT,rfl,rfl,hc.1,hc.2⟩
    ·cases h
   ·cases h
  ·cases h
 ·cases h
theorem Be{w:World}{ro:Nat→Prop}{n:Nat}{es:List (List aU)}(hn: ∀e∈es,e.length=n){f:Nat→Value}(hf: ∀j x,es.flatten[j]? =some x→de w ro x (f j)):
 ((List.range (es.length*n)).map f).length=es.length*n∧(∀u∈(List.range (es.length*n)).map f,u.oneCell'=true)∧∀j x,es.flatten[j]? =some x→de w ro x (((List.range (es.length*n)).map f).getD j undef):=by
 refine⟨by simp,fun u hu=>?_,fun j x aj=>?_⟩
 ·rw[List.mem_map]at hu
  obtain⟨j,aj,rfl⟩:=hu;rw[List.mem_range]at aj
  have av:=jh hn
  exact(hf j (es.flatten[j]'(by omega)) (by simp)).one
 ·have av:=jh hn
  have dj:=(List.getElem?_eq_some_iff.1 aj).1
  have:j<es.length*n:=by omega
  simpa[List.getD,this]using hf j x aj
theorem F5{w:World}{ro:Nat→Prop}{n:Nat}{es fs:List (List aU)}(hn: ∀e∈es,e.length=n){xs ys:List Value}(hx:xs.length=es.length*n)(ab: ∀j x,es.flatten[j]? =some x→de w ro x (xs.getD j undef))
 (ae: ∀j x,fs.flatten[j]? =some x→de w ro x (ys.getD j undef)): ∀j x,(es++fs).flatten[j]? =some x→de w ro x ((xs++ys).getD j undef):=by
 intro j x aj
 rw[List.flatten_append]at aj
 have av:=jh hn
 by_cases h:j<es.flatten.length
 ·rw[List.getElem?_append_left h]at aj
  have:=ab j x aj
  rw[List.getD,List.getElem?_append_left (by omega)]
  exact this
 ·rw[List.getElem?_append_right (by omega)]at aj
  have:=ae _ x aj
  rw[List.getD,List.getElem?_append_right (by omega),hx,←av]
  exact this
theorem zc7(x y:Operand)(t:TypeId)(au:o.op= .call {callee:=.builtin .append,args:=#[x,y],argTypes:=#[t,t]}){e n bytes:Nat}(aJ:qa P t=some (e,n,bytes))
 {id:Nat}(hx:aP G s x= .aq id){es:List (List aU)}(bf:aE s.heap id=some (.row false e n es))(ag:s.base≤id)(bE:id<s.next)
 {fs:List (List aU)}(aA:h0 s.heap n (aP G s y)=some fs)(bT:es.length+fs.length≤maxLen∧(es.length+fs.length)*bytes≤140737488355328):
 ep P G o s (aQ.put ⟨eM id s.db,(id,.row false e n (es++fs))::ef id s.heap,s.next,s.base⟩ o.dst (.aq id)):=by
 intro E a w ⟨β,ro,ah⟩ K Q hK
 obtain⟨i,z,hu,hi,aT,hR,jQ,iu,hn⟩:=rD aJ
 obtain⟨b,cap,hc,mR,qd,f,jH,qe⟩:=x5 ah.heap (ah.eval y) aA
 have dS:=ah.heap.dq id _ bf
 cases dS with
 |row _ _ _ xs dM bW fx=>
  have lr:a.eval x=β id:=by
   have h:=ah.eval x
   rw[hx]at h;generalize a.eval x=c at h
   cases h with
   |aq _ _ _ ar=>exact ar _ _ _ _ bf
  obtain⟨o9,rv,ry⟩:=Be mR qe
  obtain⟨bu,w',cy,qD,dG,bc⟩:=LQ (P:=P) t o.type e hu hi aT hR jQ iu hn dM (b:=b) (m:=fs.length) (cap:=cap) o9 (fun ag=>by rw[qd ag];rfl)
   (fun bb a6 j u aj=>by
    have dj:=(List.getElem?_eq_some_iff.1 aj).1
    rw[o9]at dj
    have ab:=jH bb a6 j dj
    simp[dj]at aj
    rw[ab,aj]) rv bT.1 bT.2
  unfold Oper.wp;simp only[execOp,au,resolve,invoke,builtin,Sem.run_bind,Sem.run_pure,Result.andThen_ok,List.map_toArray,List.map_cons,List.map_nil,lr,hc,cy]
  have kB: ∀k,k<w.heap.size→cz (β id)≠some k→w'.heap[k]? =w.heap[k]? :=fun k an bW=>dG.block k an (fun e=>bW e.symm)
  have cr: ∀k,ro k→w'.heap[k]? =w.heap[k]? :=fun k an=>kB k (ah.heap.lt k an) fun bc=>ah.heap.e8 k an ⟨id,_,bf,rfl,bc⟩
  refine hK _ _ ⟨iH β id bu,ro,dn.put (ah.renew (w':=w') id ag bE bf (.row false e n (es++fs)) bu dG.os dG.tape dG.output dG.size kB bc rfl ?_) o.dst _ _ ?_⟩
  ·refine .row e n _ _ (by rw[eT,List.length_append];exact qD) (fun aF jz=>?_) (fun j x aj=>?_)
   ·rw[List.mem_append]at jz
    rcases jz with h|h
    ·exact bW _ h
    ·exact mR _ h
   ·exact(F5 bW dM.1 fx ry j x aj).keep cr fun _ h=>h
  ·exact .aq _ _ bE fun z bh bL eD _=>(eT _ _ _).symm
theorem Q8(x y:Operand)(t:TypeId)(au:o.op= .call {callee:=.builtin .append,args:=#[x,y],argTypes:=#[t,t]}){e n bytes:Nat}(aJ:qa P t=some (e,n,bytes))
 (hx:aP G s x= .ad (.v (.slice none 0 0)))(ag:s.base≤s.next)
 {fs:List (List aU)}(aA:h0 s.heap n (aP G s y)=some fs)(bT:fs.length≤maxLen∧fs.length*bytes≤140737488355328):
 ep P G o s ({s with heap:=(s.next,.row false e n fs)::s.heap,next:=s.next+1}.put o.dst (.aq s.next)):=by
 intro E a w ⟨β,ro,ah⟩ K Q hK
 obtain⟨i,z,hu,hi,aT,hR,jQ,iu,hn⟩:=rD aJ
 obtain⟨b,cap,hc,mR,qd,f,jH,qe⟩:=x5 ah.heap (ah.eval y) aA
 obtain⟨o9,rv,ry⟩:=Be mR qe
 obtain⟨bu,w',cy,qD,dG,bc⟩:=LQ (P:=P) (w:=w) t o.type e hu hi aT hR jQ iu hn (v:=.slice none 0 0) (len:=0) (xs:=[]) ⟨by simp,.inl ⟨⟨none,rfl,fun _ h=>(by cases h)⟩,rfl⟩⟩ (b:=b) (m:=fs.length) (cap:=cap) o9 (fun ag=>by rw[qd ag];rfl)
  (fun bb a6 j u aj=>by
   have dj:=(List.getElem?_eq_some_iff.1 aj).1
   rw[o9]at dj
   have ab:=jH bb a6 j dj
   simp[dj]at aj
   rw[ab,aj]) rv (by omega) (by rw[Nat.zero_add];exact bT.2)
 unfold Oper.wp
 simp only[execOp,au,resolve,invoke,builtin,Sem.run_bind,Sem.run_pure,Result.andThen_ok,List.map_toArray,List.map_cons,List.map_nil,ah.dR hx,hc,cy]
 have kr:aE s.heap s.next=none:=by
  cases ai:aE s.heap s.next with
  |none=>rfl
  |some p=>have:=ah.trans.new _ _ ai;omega
 have hw: ∀b,b<w.heap.size→w'.heap[b]? =w.heap[b]? :=fun b ag=>dG.block b ag (by simp[cz])
 have cr: ∀b,ro b→w'.heap[b]? =w.heap[b]? :=fun b ag=>hw b (ah.heap.lt b ag)
 refine hK _ _ ⟨iH β s.next bu,ro,dn.put (ah.new (w':=w') s.next kr ag (Nat.le_refl _) (.row false e n fs) bu dG.os dG.tape dG.output dG.size hw (fun b ag=>?_) rfl ?_) o.dst _ _ ?_⟩
 ·rcases bc b ag with h|h
  ·simp[cz]at h
  ·exact h
 ·refine .row e n _ _ (by rw[eT];simpa using qD) mR (fun j x aj=>(ry j x aj).keep cr fun _ h=>h)
 ·exact .aq _ _ (Nat.lt_succ_self _) fun z bh bL eD _=>(eT _ _ _).symm
theorem Zt(t:TypeId)(x y:Operand)(au:o.op= .makeSlice t x y){e n bytes:Nat}(aJ:qa P t=some (e,n,bytes)){zs:List Value}(aT:zeroCells P e=some zs)(qC:zs.all Value.oneCell'=true)
 {k a8:IntKind}{m:Nat}(hx:aP G s x= .ad (.v (.int k (m:Int))))(aA:aP G s y= .ad (.v (.int a8 (m:Int))))(bT:m≤maxLen∧bytes*m≤281474976710656):
 uu P G o s e n (List.replicate m (zs.map aU.v)):=by
 obtain⟨i,z,hu,hi,Cc,hR,jQ,iu,hn⟩:=rD aJ
 obtain⟨hs,_,oC,yS,hC,lP⟩:=yM (P:=P) aT default
 have Cd:z.cells=zs.toArray:=by
  rw[hi]at hC;simp only[Option.some.injEq]at hC;subst hC;rw[Cc]at lP;simp only[Option.some.injEq]at lP;subst lP;exact oC
 have k4:zs.length=n:=by rw[←iu,Cd];simp
 refine⟨fun e he=>by rw[List.mem_replicate]at he;rw[he.2];simpa using k4,fun E a w β ro ah=>?_⟩
 obtain⟨w',cy,h6,dG⟩:=run_make_full (P:=P) w 0 t e i z n hu hi Cc hR k a8 m (by rw[jQ];exact bT.2) bT.1 (Nat.zero_le _)
 refine⟨.slice (some ⟨w.heap.size,0,none⟩) m m,(madeCells z.cells (m*n)).toList,w',by simp[execOp,au,ah.dR hx,ah.dR aA,cy],by rw[List.length_replicate];exact h6,dG,fun b bc=>?_,fun j x aj=>?_⟩
 ·simp only[cz]at bc
  split at bc
  ·cases bc
  ·simp at bc;omega
 ·have dj:j<m*n:=by
   have:=(List.getElem?_eq_some_iff.1 aj).1
   rwa[jh (n:=n) (fun e he=>by rw[List.mem_replicate]at he;rw[he.2];simpa using k4),List.length_replicate]at this
  have hm:j=(j/ n)*n+j%n:=by rw[Nat.mul_comm];exact(Nat.div_add_mod j n).symm
  have lX:j%n<n:=Nat.mod_lt _ hn
  have lY:j/ n<m:=by rw[Nat.div_lt_iff_lt_mul hn];exact dj
  rw[hm,pk (n:=n) (fun e he=>by rw[List.mem_replicate]at he;rw[he.2];simpa using k4) (i:=j/ n) (e:=zs.map aU.v) (by simp[lY]) (j%n) lX]at aj
  have aw:j%n<zs.length:=by omega
  simp[aw]at aj;subst aj
  have aD:(madeCells z.cells (m*n)).toList.getD j undef=zs[j%n]:=by
   simp[madeCells,Cd,dj,k4,List.getElem?_eq_getElem aw]
  rw[aD];refine .v _ ?_
  rw[List.all_eq_true]at qC;exact qC _ (List.getElem_mem aw)
theorem LR{cap len:Nat}{isS:Bool}{lo hi mx:Option Value}{l h m:Nat}(hm:(mx=none∧m=cap)∨∃k,mx=some (.int k (m:Int)))(aV:(hi=none∧mx=none∧h=len)∨∃k,hi=some (.int k (h:Int)))
 (av:(lo=none∧l=0)∨∃k,lo=some (.int k (l:Int)))(ab:l≤h)(ae:h≤m)(aw:m≤cap)(w:World):(Instr.sliceBounds isS len cap lo hi mx).run P w= .ok (l,h,m) w:=by
 rcases hm with⟨rfl,rfl⟩|⟨zj5,rfl⟩<;>rcases aV with⟨rfl,uR,rfl⟩|⟨zj6,rfl⟩<;>rcases av with⟨rfl,rfl⟩|⟨Te,rfl⟩
 all_goals first
  |(cases uR;done)
  |simp[Instr.sliceBounds,Instr.sliceBound,asIntOf,ab,ae,aw]
theorem Zc (t : TypeId) (x : Operand) (lo hi : Option Operand) (au : o.op = .slice t x lo hi none) {n : Nat} (aJ : kS P t = some n) {es : List (List aU)} (hx : aP G s x = .ad (.aq n es)) {l h : Nat}
    (av : (lo = none ∧ l = 0) ∨ ∃ y k, lo = some y ∧ aP G s y = .ad (.v (.int k (l : Int)))) (aV : (hi = none ∧ h = es.length) ∨ ∃ y k, hi = some y ∧ aP G s y = .ad (.v (.int k (h : Int)))) (ab : l ≤ h) (ae : h ≤ es.length)
    {fs : List (List aU)} (py : (es.take h).drop l = fs) : cY P G o s (.ad (.aq n fs)) :=
  fun _ a w β ro ah => by
    obtain ⟨e, hu, bT⟩ := wN aJ
    have hB := ah.eval x
    rw [hx] at hB; generalize hc : a.eval x = c at hB
    cases hB with
    | ad _ _ hB =>
      cases hB with
      | aq _ _ b cap f g1 g2 g3 g4 g5 =>
        have ag := LR (P := P) (cap := cap) (len := es.length) (isS := true) (lo := lo.map a.eval) (hi := hi.map a.eval) (mx := none) (l := l) (h := h) (m := cap) (.inl ⟨rfl, rfl⟩)
          (by rcases aV with ⟨rfl, rfl⟩ | ⟨y, k, rfl, aA⟩
              · exact .inl ⟨rfl, rfl, rfl⟩
              · exact .inr ⟨k, by simp [ah.dR aA]⟩)
          (by rcases av with ⟨rfl, rfl⟩ | ⟨y, k, rfl, aA⟩
              · exact .inl ⟨rfl, rfl⟩
              · exact .inr ⟨k, by simp [ah.dR aA]⟩) ab (by omega) (Nat.le_refl _) w
        have hlen : fs.length = h - l := by rw [← py]; simp; omega
        refine ⟨.slice (if cap = l then b else Option.map (fun x => x.add (l * n)) b) (h - l) (cap - l), ?_, .ad _ _ ?_⟩
        · simp only [execOp, au, Sem.run_bind, hc, Instr.sliceAt, run_underlying hu, Result.andThen_ok, Instr.slice, Option.map_none, ag, bT, Sem.run_pure]
        · rw [← hlen]
          have ta : ∀ e ∈ fs, e.length = n := fun e he => g3 e (by rw [← py] at he; exact List.mem_of_mem_take (List.mem_of_mem_drop he))
          have fq : ∀ i, i < fs.length → fs[i]? = es[l + i]? := fun i hi => by
            rw [← py, List.getElem?_drop, List.getElem?_take, if_pos (by omega)]
          refine .aq n fs _ (cap - l) (fun j => f (l * n + j)) (by omega) (by omega) ta (fun ar => ?_) (fun j x aj => ?_)
          · obtain ⟨c7, rfl, jO⟩ := g4 (by omega)
            refine ⟨c7.add (l * n), by rw [if_neg (by omega)]; rfl, fun j aj => ?_⟩
            rw [uN, yH]; refine jO _ ?_
            have : (l + fs.length) * n ≤ es.length * n := Nat.mul_le_mul_right n (by omega)
            rw [Nat.add_mul] at this; omega
          · have px : 0 < n := by
              rcases Nat.eq_zero_or_pos n with aS | aS
              · have := (List.getElem?_eq_some_iff.1 aj).1
                rw [jh ta, aS] at this; simp at this
              · exact aS
            have dj : j < fs.length * n := by have := (List.getElem?_eq_some_iff.1 aj).1; rwa [jh ta] at this
            have hm : j = (j / n) * n + j % n := by rw [Nat.mul_comm]; exact (Nat.div_add_mod j n).symm
            have lX : j % n < n := Nat.mod_lt _ px
            have lY : j / n < fs.length := by rw [Nat.div_lt_iff_lt_mul px]; exact dj
            have he : fs[j / n]? = some fs[j / n] := List.getElem?_eq_getElem lY
            have og := aj
            rw [hm, pk ta he (j % n) lX] at og; refine g5 _ x ?_
            have aD : l * n + j = (l + j / n) * n + j % n := by rw [Nat.add_mul]; omega
            rw [aD, pk g3 (i := l + j / n) (e := fs[j / n]) (by rw [← fq _ lY]; exact he) (j % n) lX]
            exact og
theorem AP (t : TypeId) (x : Operand) (lo hi : Option Operand) (au : o.op = .slice t x lo hi none) (aJ : P.underlying t = some .string) {b : ByteArray} (hx : aP G s x = .ad (.v (.string b))) {l h : Nat}
    (av : (lo = none ∧ l = 0) ∨ ∃ y k, lo = some y ∧ aP G s y = .ad (.v (.int k (l : Int)))) (aV : (hi = none ∧ h = b.size) ∨ ∃ y k, hi = some y ∧ aP G s y = .ad (.v (.int k (h : Int)))) (ab : l ≤ h) (ae : h ≤ b.size) :
    cY P G o s (.ad (.v (.string (b.extract l h)))) :=
  fun _ a w β ro ah => by
    have ag := LR (P := P) (cap := b.size) (len := b.size) (isS := false) (lo := lo.map a.eval) (hi := hi.map a.eval) (mx := none) (l := l) (h := h) (m := b.size) (.inl ⟨rfl, rfl⟩)
      (by rcases aV with ⟨rfl, rfl⟩ | ⟨y, k, rfl, aA⟩
          · exact .inl ⟨rfl, rfl, rfl⟩
          · exact .inr ⟨k, by simp [ah.dR aA]⟩)
      (by rcases av with ⟨rfl, rfl⟩ | ⟨y, k, rfl, aA⟩
          · exact .inl ⟨rfl, rfl⟩
          · exact .inr ⟨k, by simp [ah.dR aA]⟩) ab ae (Nat.le_refl _) w
    exact ⟨_, by simp [execOp, au, ah.dR hx, Instr.sliceAt, run_underlying aJ, Instr.slice, ag], .e3 rfl⟩
theorem Tf(src dst:TypeId)(x:Operand)(au:o.op= .convert src dst x)(ao:(P.underlying src).isSome=true){a8:IntKind}(hd:P.underlying dst=some (.int a8)){k:IntKind}{n:Int}(hx:aP G s x= .ad (.v (.int k n))):
 cY P G o s (.ad (.v (.int a8 (a8.wrap n)))):=
 fun _ a w β ro ah=>by
  cases hu:P.underlying src with
  |none=>simp[hu]at ao
  |some d=>exact⟨_,by simp[execOp,au,ah.dR hx,convert,run_underlying hu,run_underlying hd,Conv.intToInt],.e3 rfl⟩
theorem Tg(x y:Operand)(ts:Array TypeId)(au:o.op= .call {callee:=.builtin .min,args:=#[x,y],argTypes:=ts}){k:IntKind}{m n:Int}(hx:aP G s x= .ad (.v (.int k m)))(aA:aP G s y= .ad (.v (.int k n))):
 cY P G o s (.ad (.v (.int k (if n<m then n else m)))):=
 fun _ a w β ro ah=>⟨.int k (if n<m then n else m),by simp[execOp,au,resolve,invoke,builtin,ah.dR hx,ah.dR aA,run_min_int2],.e3 rfl⟩
theorem Th(x y:Operand)(ts:Array TypeId)(au:o.op= .call {callee:=.builtin .max,args:=#[x,y],argTypes:=ts}){k:IntKind}{m n:Int}(hx:aP G s x= .ad (.v (.int k m)))(aA:aP G s y= .ad (.v (.int k n))):
 cY P G o s (.ad (.v (.int k (if n>m then n else m)))):=
 fun _ a w β ro ah=>⟨.int k (if n>m then n else m),by simp[execOp,au,resolve,invoke,builtin,ah.dR hx,ah.dR aA,run_max_int2],.e3 rfl⟩
theorem zc8(cJ ty:TypeId)(x y:Operand)(au:o.op= .binOp .add cJ x y ty){u v:ByteArray}(hx:aP G s x= .ad (.v (.string u)))(aA:aP G s y= .ad (.v (.string v)))(bT:u.size+v.size≤9223372036854775807):
 cY P G o s (.ad (.v (.string (u++v)))):=
 qy .add cJ ty x y au hx aA (by
  simp only[j0]
  rw[if_neg (by simp only[IntKind.max_i64];omega)])
end
end Go.aK
namespace Go.aK
open Go
def rO(s:aQ)(o:Oper)(v:aC):Option aQ:=some (s.put o.dst v)
def isStr(P:Program)(t:TypeId):Bool:=
 match P.underlying t with
 |some .string=>true
 |_=>false
def AG(P:Program)(t:TypeId):Bool:=
 match P.underlying t with
 |some .bool=>true
 |_=>false
theorem sE{P:Program}{t:TypeId}(h:isStr P t=true):P.underlying t=some .string:=by
 unfold isStr at h
 split at h
 ·assumption
 ·cases h
theorem F6{P:Program}{t:TypeId}(h:AG P t=true):P.underlying t=some .bool:=by
 unfold AG at h
 split at h
 ·assumption
 ·cases h
def LS(P:Program)(G:aR)(b:Builtin)(xs:List Operand)(ts:List TypeId)(s:aQ):Option aC:=
 match b,xs,ts with
 | .len,[x],[t]=>match lN s.heap (aP G s x)with
  |some m=>if isSlice P t then some (.ad (.v (.int .i64 (m:Int))))else none
  |none=>match aP G s x with
   | .ad (.v (.string b))=>if isStr P t then some (.ad (.v (.int .i64 (b.size:Int))))else none
   |_=>match AF P t with
    |some n=>some (.ad (.v (.int .i64 (n:Int))))
    |none=>none
 | .min,[x,y],_=>match aP G s x,aP G s y with
  | .ad (.v (.int k m)),.ad (.v (.int a8 n))=>if k=a8 then some (.ad (.v (.int k (if n<m then n else m))))else none
  |_,_=>none
 | .max,[x,y],_=>match aP G s x,aP G s y with
  | .ad (.v (.int k m)),.ad (.v (.int a8 n))=>if k=a8 then some (.ad (.v (.int k (if n>m then n else m))))else none
  |_,_=>none
 |_,_,_=>none
def sM(P:Program)(G:aR)(o:Oper)(s:aQ):Option aC:=
 match o.op with
 | .move x=>some (aP G s x)
 | .assign x=>some (aP G s x)
 | .load t x=>match fG s.heap (aP G s x)with
  |some cs=>match mb P t with
   |some n=>if n≤cs.length∧0<n then some (.agg (cs.take n))else none
   |none=>if scalar P t then match cs with
    |y::_=>some y
    |[]=>none
    else none
  |none=>none
 | .fieldAddr t x f=>match sA P t f,jt s.heap (aP G s x)with
  |some k,true=>some (p1 k (aP G s x))
  |_,_=>none
 | .nilCheck x=>match jt s.heap (aP G s x)with
  |true=>some (aP G s x)
  |false=>none
 | .field t x f=>match aP G s x,vO P t f with
  | .agg cs,some (off,none)=>match cs[off]? with
   |some v=>some v
   |none=>none
  | .agg cs,some (off,some n)=>if off+n≤cs.length then some (.agg ((cs.drop off).take n))else none
  |_,_=>none
 | .indexAddr t x i=>match aP G s i with
  | .ad (.v (.int _ (.ofNat j)))=>match kS P t with
   |some n=>match mM s.heap n j (aP G s x)with
    |some p=>some p
    |none=>none
   |none=>match uc P t,fG s.heap (aP G s x)with
    |some (len,n),some _=>if j<len then match jF (j*n) (aP G s x)with
     |some p=>some p
     |none=>none
     else none
    |_,_=>none
  |_=>none
 | .index t x i=>match aP G s i,aP G s x with
  | .ad (.v (.int _ (.ofNat j))),.ad (.v (.string b))=>if isStr P t then match b.data.toList[j]? with
   |some u=>some (.ad (.v (.int .u8 (u.toNat:Int))))
   |none=>none
   else none
  |_,_=>none
 | .binOp op cJ x y _=>match aP G s x,aP G s y with
  | .ad (.v (.bool u)),.ad (.v (.bool v))=>if AG P cJ then match op with
   | .eql=>some (.ad (.v (.bool (u==v))))
   | .neq=>some (.ad (.v (.bool (!(u==v)))))
   |_=>none
   else none
  | .ad (.v u),.ad (.v v)=>match j0 op u v with
   |some c=>some (.ad (.v c))
   |none=>none
  | .agg cs,.agg ds=>match np P cJ,hZ cs,hZ ds with
   |some fs,some xs,some ys=>match xN P 0 fs xs ys with
    |some b=>match op with
     | .eql=>some (.ad (.v (.bool b)))
     | .neq=>some (.ad (.v (.bool (!b))))
     |_=>none
    |none=>none
   |_,_,_=>none
  |_,_=>none
 | .unOp op _ x=>match op,aP G s x with
  | .not,.ad (.v (.bool b))=>some (.ad (.v (.bool (!b))))
  | .neg,.ad (.v (.int k n))=>some (.ad (.v (.int k (k.wrap (0-n)))))
  |_,_=>none
 | .pick c x y=>match aP G s c with
  | .ad (.v (.bool true))=>some (aP G s x)
  | .ad (.v (.bool false))=>some (aP G s y)
  |_=>none
 | .extract x i=>match aP G s x with
  | .tuple cs=>match cs[i]? with
   |some v=>some v
   |none=>none
  |_=>none
 | .build t parts=>match places P t,zeroCells P t with
  |some pl,some zs=>if zs.all Value.oneCell'∧(parts.toList.map fun p=>(p.1,aP G s p.2)).all (fun p=>(c1 p.2).all (eZ s.heap))then
   match kk pl (zs.map fun z=>.ad (.v z)) (parts.toList.map fun p=>(p.1,aP G s p.2))with
   |some ds=>some (.agg ds)
   |none=>none
   else none
  |_,_=>none
 | .call c=>match c.callee with
  | .builtin b=>LS P G b c.args.toList c.argTypes.toList s
  |_=>none
 | .convert src dst x=>match aP G s x,P.underlying dst with
  | .ad (.v (.int _ n)),some (.int a8)=>if(P.underlying src).isSome then some (.ad (.v (.int a8 (a8.wrap n))))else none
  |_,_=>none
 |_=>none
def LU(P:Program)(G:aR)(o:Oper)(s:aQ):Option aQ:=
 match sM P G o s with
 |some v=>rO s o v
 |none=>match o.op with
  | .store t p x=>match aP G s p with
   | .ptr id off=>match aE s.heap id with
    |some (.box bt cs)=>if(c1 (aP G s x)).all (eZ s.heap)∧(P.info? t).map (·.size)=some (c1 (aP G s x)).length∧off+(c1 (aP G s x)).length≤cs.length
     then rO {s with heap:=eA s.heap id (.box bt (en cs off (c1 (aP G s x))))} o .top else none
    |_=>none
   | .dg id i off=>match aE s.heap id with
    |some (.row false bt n es)=>match es[i]?,jb (c1 (aP G s x))with
     |some e,some vs=>if(P.info? t).map (·.size)=some vs.length∧off+vs.length≤n then rO {s with heap:=eA s.heap id (.row false bt n (es.set i (en e off vs)))} o .top else none
     |_,_=>none
    |_=>none
   |_=>none
  | .alloc t=>match zeroCells P t with
   |some zs=>if zs.all Value.oneCell'∧s.base≤s.next then rO {s with heap:=(s.next,.box t (zs.map fun z=>.ad (.v z)))::s.heap,next:=s.next+1} o (.ptr s.next 0)else none
   |none=>none
  | .box t x=>if(c1 (aP G s x)).all (eZ s.heap)∧s.base≤s.next then rO {s with heap:=(s.next,.box t (c1 (aP G s x)))::s.heap,next:=s.next+1} o (.ptr s.next 0)else none
  |_=>none
section
variable {P:Program} {G:aR} {o:Oper} {s s':aQ} {v:aC}
theorem zc9{b:Builtin}{args:Array Operand}{ts:Array TypeId}(au:o.op= .call {callee:=.builtin b,args,argTypes:=ts})(h:LS P G b args.toList ts.toList s=some v):cY P G o s v:=by
 unfold LS at h
 split at h
 ·rename_i x t a6 A0
  have aD:args= #[x]:=by apply Array.ext';simpa using a6
  have bg:ts= #[t]:=by apply Array.ext';simpa using A0
  subst aD bg
  split at h
  ·rename_i m hm
   split at h
   ·rename_i aJ
    simp only[Option.some.injEq]at h;subst h;exact LJ x t au aJ hm
   ·cases h
  ·split at h
   ·rename_i b hx
    split at h
    ·rename_i aJ
     simp only[Option.some.injEq]at h;subst h;exact LK x t au (sE aJ) hx
    ·cases h
   ·split at h
    ·rename_i n hn
     simp only[Option.some.injEq]at h;subst h;exact S1 x t au hn
    ·cases h
 ·rename_i x y a6
  have aD:args= #[x,y]:=by apply Array.ext';simpa using a6
  subst aD
  split at h
  ·rename_i k m a8 n hx aA
   split at h
   ·rename_i an
    subst an;simp only[Option.some.injEq]at h;subst h;exact Tg x y ts au hx aA
   ·cases h
  ·cases h
 ·rename_i x y a6
  have aD:args= #[x,y]:=by apply Array.ext';simpa using a6
  subst aD
  split at h
  ·rename_i k m a8 n hx aA
   split at h
   ·rename_i an
    subst an;simp only[Option.some.injEq]at h;subst h;exact Th x y ts au hx aA
   ·cases h
  ·cases h
 ·cases h
theorem Ei(h:sM P G o s=some v):cY P G o s v:=by
 unfold sM at h
 split at h
 ·rename_i x au
  simp only[Option.some.injEq]at h;subst h;exact Sp x au
 ·rename_i x au
  simp only[Option.some.injEq]at h;subst h;exact Sq x au
 ·rename_i t x au
  split at h
  ·rename_i cs hc
   split at h
   ·rename_i n hn
    split at h
    ·rename_i av
     simp only[Option.some.injEq]at h;subst h;exact Sr t x au hn hc av.1 av.2
    ·cases h
   ·split at h
    ·rename_i ao
     split at h
     ·simp only[Option.some.injEq]at h;subst h;exact Lr t x au ao hc
     ·cases h
    ·cases h
  ·cases h
 ·rename_i t x f au
  split at h
  ·rename_i k an hc
   simp only[Option.some.injEq]at h;subst h;exact Su t x f au an hc
  ·cases h
 ·rename_i x au
  split at h
  ·rename_i hc
   simp only[Option.some.injEq]at h;subst h;exact Sv x au hc
  ·cases h
 ·rename_i t x f au
  split at h
  ·rename_i cs off hx aJ
   split at h
   ·rename_i v az
    simp only[Option.some.injEq]at h;subst h;exact S5 t x f au aJ hx az
   ·cases h
  ·rename_i cs off n hx aJ
   split at h
   ·rename_i hn
    simp only[Option.some.injEq]at h;subst h;exact S6 t x f au aJ hx hn
   ·cases h
  ·cases h
 ·rename_i t x i au
  split at h
  ·rename_i k j hi
   split at h
   ·rename_i n hn
    split at h
    ·rename_i p ar
     simp only[Option.some.injEq]at h;subst h;exact S3 t x i au hn hi ar
    ·cases h
   ·split at h
    ·rename_i len n cs aJ fj
     split at h
     ·rename_i aj
      split at h
      ·rename_i p ar
       simp only[Option.some.injEq]at h;subst h;exact LL t x i au aJ hi aj fj ar
      ·cases h
     ·cases h
    ·cases h
  ·cases h
 ·rename_i t x i au
  split at h
  ·rename_i k j b hi hx
   split at h
   ·rename_i aJ
    split at h
    ·rename_i u hu
     simp only[Option.some.injEq]at h;subst h;exact S4 t x i au (sE aJ) hi hx hu
    ·cases h
   ·cases h
  ·cases h
 ·rename_i op cJ x y ty au
  split at h
  ·rename_i u v hx aA
   split at h
   ·rename_i aJ
    split at h
    ·simp only[Option.some.injEq]at h;subst h;exact SG cJ ty x y au (F6 aJ) hx aA
    ·simp only[Option.some.injEq]at h;subst h;exact SH cJ ty x y au (F6 aJ) hx aA
    ·cases h
   ·cases h
  ·rename_i u v _ hx aA
   split at h
   ·rename_i c hc
    simp only[Option.some.injEq]at h;subst h;exact qy _ cJ ty x y au hx aA hc
   ·cases h
  ·rename_i cs ds hx aA
   split at h
   ·rename_i fs xs ys hf pq nI
    split at h
    ·rename_i b ag
     split at h
     ·simp only[Option.some.injEq]at h;subst h;exact SN cJ ty x y au hf hx aA pq nI ag
     ·simp only[Option.some.injEq]at h;subst h;exact SO cJ ty x y au hf hx aA pq nI ag
     ·cases h
    ·cases h
   ·cases h
  ·cases h
 ·rename_i op t x au
  split at h
  ·rename_i b hx
   simp only[Option.some.injEq]at h;subst h;exact SP t x au hx
  ·rename_i k n hx
   simp only[Option.some.injEq]at h;subst h;exact SQ t x au hx
  ·cases h
 ·rename_i c x y au
  split at h
  ·rename_i hc
   simp only[Option.some.injEq]at h;subst h;exact B5 c x y au hc rfl
  ·rename_i hc
   simp only[Option.some.injEq]at h;subst h;exact B5 c x y au hc rfl
  ·cases h
 ·rename_i x i au
  split at h
  ·rename_i cs hx
   split at h
   ·rename_i v az
    simp only[Option.some.injEq]at h;subst h;exact SR x i au hx az
   ·cases h
  ·cases h
 ·rename_i t parts au
  split at h
  ·rename_i pl zs ar aT
   split at h
   ·rename_i hc
    split at h
    ·rename_i ds hf
     simp only[Option.some.injEq]at h;subst h;exact Ta t parts au ar aT hc.1 rfl hc.2 hf
    ·cases h
   ·cases h
  ·cases h
 ·rename_i c au
  split at h
  ·rename_i b ag
   obtain⟨callee,args,ts⟩:=c;simp only at ag h;subst ag;exact zc9 au h
  ·cases h
 ·rename_i src dst x au
  split at h
  ·rename_i k n a8 hx hd
   split at h
   ·rename_i ao
    simp only[Option.some.injEq]at h;subst h;exact Tf src dst x au ao hd hx
   ·cases h
  ·cases h
 ·cases h
theorem zda(h:LU P G o s=some s'):ep P G o s s':=by
 unfold LU at h
 split at h
 ·rename_i v az
  simp only[rO,Option.some.injEq]at h;subst h;exact(Ei az).step
 ·split at h
  ·rename_i t p x au
   split at h
   ·rename_i id off ar
    split at h
    ·rename_i bt cs ai
     split at h
     ·rename_i hc
      simp only[rO,Option.some.injEq]at h;subst h;exact Jg t p x au ar ai rfl hc.1 hc.2.1 hc.2.2
     ·cases h
    ·cases h
   ·rename_i id i off ar
    split at h
    ·rename_i bt n es ai
     split at h
     ·rename_i e vs he az
      split at h
      ·rename_i hc
       simp only[rO,Option.some.injEq]at h;subst h;exact Jh t p x au ar ai he az hc.1 hc.2
      ·cases h
     ·cases h
    ·cases h
   ·cases h
  ·rename_i t au
   split at h
   ·rename_i zs aT
    split at h
    ·rename_i hc
     simp only[rO,Option.some.injEq]at h;subst h;exact Jj t au hc.2 aT hc.1
    ·cases h
   ·cases h
  ·rename_i t x au
   split at h
   ·rename_i hc
    simp only[rO,Option.some.injEq]at h;subst h;exact Jk t x au hc.2 hc.1
   ·cases h
  ·cases h
def eS(ops:Array Oper)(s:aQ)(o:Oper):Option Bool:=
 match o.guard with
 |none=>some true
 |some (j,b)=>match mQ ops j with
  |some d=>match s.db[d]? with
   |some (.ad (.v (.bool c)))=>some (match b,c with
    |true,true=>true
    |false,false=>true
    |_,_=>false)
   |some (.tuple _)=>some false
   |_=>none
  |none=>none
def yU(P:Program)(G:aR)(ops:Array Oper):Nat→List Oper→aQ→Option aQ
 |0,_,s=>some s
 |n+1,o::r,s=>match eS ops s o with
  |some true=>match LU P G o s with
   |some s'=>yU P G ops n r s'
   |none=>none
  |some false=>yU P G ops n r (s.put o.dst (.tuple []))
  |none=>none
 |_+1,[],_=>none
variable {Q:Exit→aQ→Prop}
theorem c8.step{ops:Array Oper}{rest:List Oper}(ai:eS ops s o=some true)(h:ep P G o s s')(k:c8 P G ops Q rest s'):c8 P G ops Q (o::rest) s:=by
 unfold eS at ai
 split at ai
 ·rename_i hn
  exact c8.cons hn h k
 ·rename_i j b hn
  split at ai
  ·rename_i d hd
   split at ai
   ·rename_i c ao
    simp only[Option.some.injEq]at ai
    have Ce:b=c:=by cases b<;>cases c<;>simp_all
    subst Ce;exact c8.guarded hn hd ao h k
   ·cases ai
   ·cases ai
  ·cases ai
theorem c8.pass{ops:Array Oper}{rest:List Oper}(ai:eS ops s o=some false)(k:c8 P G ops Q rest (s.put o.dst (.tuple []))):c8 P G ops Q (o::rest) s:=by
 unfold eS at ai
 split at ai
 ·cases ai
 ·rename_i j b hn
  split at ai
  ·rename_i d hd
   split at ai
   ·rename_i c ao
    simp only[Option.some.injEq]at ai
    have Ce:c= !b:=by cases b<;>cases c<;>simp_all
    subst Ce;exact c8.zcN hn hd ao k
   ·rename_i cs ao
    exact c8.zcO hn hd ao k
   ·cases ai
  ·cases ai
theorem c8.run{ops:Array Oper}: ∀(n:Nat) {l:List Oper} {s s':aQ},yU P G ops n l s=some s'→c8 P G ops Q (l.drop n) s'→c8 P G ops Q l s
 |0,l,s,s',h,k=>by
  simp[yU]at h;subst h;exact k
 |n+1,[],s,s',h,k=>by simp[yU]at h
 |n+1,o::r,s,s',h,k=>by
  simp only[yU]at h
  split at h
  ·rename_i ai
   split at h
   ·rename_i s1 ab
    exact c8.step ai (zda ab) (c8.run n h k)
   ·cases h
  ·rename_i ai
   exact c8.pass ai (c8.run n h k)
  ·cases h
end
end Go.aK
namespace Go.aK
open Go
abbrev xW(n:Int):aC:=.ad (.v (.int .i64 n))
abbrev wq(b:Bool):aC:=.ad (.v (.bool b))
abbrev vs(s:ByteArray):aC:=.ad (.v (.string s))
abbrev zdb(l:List aU):List aC:=l.map .ad
def oH:Nat→Nat→List (Nat × aC)→List aC
 |_,0,_=>[]
 |i,k+1,[]=>.top::oH (i+1) k []
 |i,k+1,(j,v)::r=>if i=j then v::oH (i+1) k r else .top::oH (i+1) k ((j,v)::r)
theorem iy(n:Int)(ab: -9223372036854775808≤n)(ae:n≤9223372036854775807):IntKind.i64.wrap n=n:=by
 rw[IntKind.wrap_i64];omega
def nN(σ:Heap):Heap→Heap
 |[]=>[]
 |(k,.box t cs)::r=>(k,.box t (k3 σ cs))::nN σ r
 |(k,.row z t n es)::r=>(k,.row z t n es)::nN σ r
 |(k,.bI bH)::r=>(k,.bI bH)::nN σ r
def lZ(σ:Heap):ec→ec
 | .box t cs=>.box t (k3 σ cs)
 | .row z t n es=>.row z t n es
 | .bI bH=>.bI bH
theorem rP(σ:Heap): ∀(h:Heap) (k:Nat),aE (nN σ h) k=(aE h k).map (lZ σ)
 |[],k=>by simp[nN,aE]
 |(j,.box t cs)::r,k=>by
  by_cases aj:j=k
  ·simp[nN,aE,aj,lZ]
  ·simp[nN,aE,aj,rP σ r k]
 |(j,.row z t n es)::r,k=>by
  by_cases aj:j=k
  ·simp[nN,aE,aj,lZ]
  ·simp[nN,aE,aj,rP σ r k]
 |(j,.bI bH)::r,k=>by
  by_cases aj:j=k
  ·simp[nN,aE,aj,lZ]
  ·simp[nN,aE,aj,rP σ r k]
theorem kV.Ej{w:World}{ro:Nat→Prop}{t:TypeId}{n:Nat}{v:Value}{es:List (List aU)}{xs:List Value}(h:kV w t n v es.length xs)(hn: ∀e∈es,e.length=n)(hc: ∀j x,es.flatten[j]? =some x→de w ro x (xs.getD j undef))
 (cr: ∀b,cz v=some b→ro b):de w ro (.aq n es) v:=by
 rcases h.2 with⟨⟨b,az,_⟩,aT⟩|⟨g,cap,cur,az,ar,ai,hle,jN,fj,lU⟩
 ·subst az
  have:es=[]:=List.eq_nil_of_length_eq_zero aT
  subst this;exact .aq n [] b 0 (fun _=>undef) (by simp) (Nat.zero_le _) (by simp) (by simp) (by simp)
 ·subst az
  refine .aq n es _ cap (fun j=>xs.getD j undef) hle jN hn (fun _=>⟨⟨g,0,none⟩,rfl,fun j aj=>⟨cr g (by simp[cz,Nat.ne_of_gt ar]),?_⟩⟩) hc
  rw[addLit,Nat.zero_add,cell_of_row w g j cur t (0,0) ai]
  have hx:xs[j]? =cur[j]? :=by rw[←lU,List.getElem?_take,if_pos aj];simp
  have m6:j<xs.length:=by rw[h.1];exact aj
  rw[←hx];simp[List.getD,List.getElem?_eq_getElem m6]
def qE(s:aQ)(id:Nat):aQ:=
 match aE s.heap id with
 |some (.row false t n es)=>⟨k3 [(id,.row true t n es)] s.db,nN [(id,.row true t n es)] (gS s.heap id),s.next,s.base⟩
 |_=>s
theorem bV.qE(s:aQ)(id:Nat):bV s (qE s id):=by
 unfold Go.aK.qE
 split
 ·rename_i t n es bf
  intro E G a w ⟨β,ro,h⟩
  have dS:=h.heap.dq id _ bf
  cases dS with
  |row _ _ _ xs dM hn hc=>

   have xU:de w (fun b=>ro b∨cz (β id)=some b) (.aq n es) (β id):=dM.Ej hn (fun j x aj=>(hc j x aj).keep (fun _ _=>rfl) fun _ h=>.inl h) fun b ag=>.inr ag
   have fC: ∀k o,aE (gS s.heap id) k=some o→aE s.heap k=some o∧k≠id:=by
    intro k o an;rw[BV]at an
    split at an
    ·cases an
    ·rename_i bW
     exact⟨an,fun e=>bW e.symm⟩
   have view: ∀x c,bA w ro s.heap β s.next x c→bA w (fun b=>ro b∨cz (β id)=some b) (nN [(id,.row true t n es)] (gS s.heap id)) β s.next (im [(id,.row true t n es)] x) c:=by
    intro x c hx
    induction hx with
    |ad x c hx=>exact .ad x c (hx.keep (fun _ _=>rfl) fun _ h=>.inl h)
    |agg cs c ab _ aY=>
     refine .agg _ c (by rw[pt];exact ab) fun j x aj=>?_
     obtain⟨y,aA,rfl⟩:=qA _ aj;exact aY j y aA
    |tuple cs c ab _ aY=>
     refine .tuple _ c (by rw[pt];exact ab) fun j x aj=>?_
     obtain⟨y,aA,rfl⟩:=qA _ aj;exact aY j y aA
    |ptr k off c av ar=>
     refine .ptr k off c av fun bh cs' ai=>?_
     rw[rP]at ai
     cases an:aE (gS s.heap id) k with
     |none=>simp[an]at ai
     |some p=>
      cases p with
      |box t2 Cf=>exact ar t2 Cf (fC k _ an).1
      |row=>simp[an,lZ]at ai
      |bI=>simp[an,lZ]at ai
    |dN k off c av ar=>
     refine .dN k off c av fun bh cs' ai=>?_
     rw[rP]at ai
     cases an:aE (gS s.heap id) k with
     |none=>simp[an]at ai
     |some p=>
      cases p with
      |box t2 Cf=>exact ar t2 Cf (fC k _ an).1
      |row=>simp[an,lZ]at ai
      |bI=>simp[an,lZ]at ai
    |dg k i off c av ar=>
     refine .dg k i off c av fun hs bh bL eD ai=>?_
     rw[rP]at ai
     cases an:aE (gS s.heap id) k with
     |none=>simp[an]at ai
     |some p=>
      cases p with
      |box t2 Cf=>simp[an,lZ]at ai
      |bI=>simp[an,lZ]at ai
      |row z2 t2 gK zdc=>
       simp only[an,lZ,Option.map_some,Option.some.injEq,ec.row.injEq]at ai;obtain⟨rfl,rfl,rfl,rfl⟩:=ai;exact ar _ _ _ _ (fC k _ an).1
    |aq k c av ar=>
     simp only[im,aE]
     by_cases an:id=k
     ·subst an
      simp only[if_true];rw[ar _ _ _ _ bf];exact .ad _ _ xU
     ·simp only[if_neg an]
      refine .aq k c av fun hs bh bL eD ai=>?_
      rw[rP]at ai
      cases fk:aE (gS s.heap id) k with
      |none=>simp[fk]at ai
      |some p=>
       cases p with
       |box t2 Cf=>simp[fk,lZ]at ai
       |bI=>simp[fk,lZ]at ai
       |row z2 t2 gK zdc=>exact ar _ _ _ _ (fC k _ fk).1
    |fn f p q c d ab ae _ _ hv hy=>
     refine .fn f _ _ c d (by rw[pt];exact ab) (by rw[pt];exact ae) (fun j x aj=>?_) (fun j x aj=>?_)
     ·obtain⟨y,aA,rfl⟩:=qA _ aj
      exact hv j y aA
     ·obtain⟨y,aA,rfl⟩:=qA _ aj
      exact hy j y aA
    |ref k c av ar=>
     refine .ref k c av fun bH ai=>?_
     rw[rP]at ai
     cases an:aE (gS s.heap id) k with
     |none=>simp[an]at ai
     |some p=>
      cases p with
      |box=>simp[an,lZ]at ai
      |row=>simp[an,lZ]at ai
      |bI km=>exact ar km (fC k _ an).1
    |top c=>exact .top c
   have back: ∀k o,aE (nN [(id,.row true t n es)] (gS s.heap id)) k=some o→∃p,aE s.heap k=some p∧k≠id∧p.live=o.live∧o=lZ [(id,.row true t n es)] p:=by
    intro k o ai;rw[rP]at ai
    cases an:aE (gS s.heap id) k with
    |none=>simp[an]at ai
    |some p=>
     obtain⟨ab,ae⟩:=fC k p an;refine⟨p,ab,ae,?_,?_⟩
     ·simp[an]at ai
      subst ai
      cases p<;>rfl
     ·simp[an]at ai
      exact ai.symm
   refine⟨β,fun b=>ro b∨cz (β id)=some b,h.defers,by simpa[pt]using h.size,fun i x hx=>?_,⟨fun k o ai=>?_,fun k a8 o cb b ai dQ av j2 ag gJ=>?_,fun b ag=>?_,fun b ag=>?_⟩,
    h.hL.keep (fun _ _=>rfl) fun _ h=>.inl h,?_,h.base⟩
   ·obtain⟨y,aA,rfl⟩:=qA _ hx
    exact view _ _ (h.slot i y aA)
   ·obtain⟨p,ab,ae,aw,rfl⟩:=back k o ai
    have au:=h.heap.dq k p ab
    cases au with
    |box bh cs' b arr aD bg cM dU=>
     refine .box bh _ b arr aD bg (by rw[pt];exact cM) fun j x aj=>?_
     obtain⟨y,aA,rfl⟩:=qA _ aj;exact view _ _ (dU j y aA)
    |row bh bL eD AV aD bg cM=>exact .row bh bL eD AV aD bg fun j x aj=>(cM j x aj).keep (fun _ _=>rfl) fun _ h=>.inl h
    |fW bh bL eD aD=>exact .fW bh bL eD (aD.keep (fun _ _=>rfl) fun _ h=>.inl h)
    |bI bH b o aD bg cM=>exact .bI bH b o aD bg (bH.mono _ _ _ _ (fun x c h=>h.keep (fun _ _=>rfl) fun _ h=>.inl h) cM)
   ·obtain⟨p,ab,_,aw,_⟩:=back k o ai
    obtain⟨gW,sK,_,E7,_⟩:=back a8 cb dQ;exact h.heap.inj k a8 p gW b ab sK (aw.trans av) (E7.trans j2) ag gJ
   ·rintro⟨k,o,ai,av,bc⟩
    obtain⟨p,ab,ae,aw,_⟩:=back k o ai
    rcases ag with ag|ag
    ·exact h.heap.e8 b ag ⟨k,p,ab,aw.trans av,bc⟩
    ·exact ae (h.heap.inj k id p _ b ab bf (aw.trans av) rfl bc ag)
   ·rcases ag with ag|ag
    ·exact h.heap.lt b ag
    ·exact(dM.iG ag).1
   ·have bh:=h.trans
    refine⟨bh.os,bh.tape,bh.output,bh.size,bh.frame,fun b ag=>?_,fun b ag=>.inl (bh.gA b ag),?_,fun k an o ai=>?_,fun k o ai=>?_,bh.le⟩
    ·rcases ag with ag|ag
     ·exact bh.hz b ag
     ·rcases bh.fU b ⟨id,_,bf,rfl,ag⟩with hc|hc
      ·exact .inr (.inl hc)
      ·exact .inr (.inr hc)
    ·rintro b ⟨k,o,ai,av,bc⟩
     obtain⟨p,ab,_,aw,_⟩:=back k o ai;exact bh.fU b ⟨k,p,ab,aw.trans av,bc⟩
    ·obtain⟨p,ab,_,_,_⟩:=back k o ai
     exact bh.ea k an p ab
    ·obtain⟨p,ab,_,_,_⟩:=back k o ai
     exact bh.new k p ab
 ·exact bV.refl s
end Go.aK
namespace Go.aK
open Go
def rm(s:ByteArray)(pos:Nat):yI:=⟨fun _ v o=>(∃b,v= .pointer (some ⟨b,0,none⟩))∧o= .stringIter s pos,fun _ _ _ _ _ h=>h,none,fun _ h=>by cases h⟩
section
variable {P:Program} {G:aR} {o:Oper} {s:aQ}
theorem run_newObj(jy:Obj)(w:World):(newObj jy).run P w= .ok w.heap.size (w.alloc jy):=rfl
theorem Ti{w:World}{r:Nat}{b:ByteArray}{p:Nat}(h:w.heap[r]? =some (.stringIter b p)):(getObj r).run P w= .ok (.stringIter b p) w:=by simp[getObj,Sem.run,h]
theorem zdd{w:World}{r:Nat}{b:ByteArray}{p:Nat}(jy:Obj)(h:w.heap[r]? =some (.stringIter b p)):(setObj r jy).run P w= .ok () {w with heap:=w.heap.setIfInBounds r jy}:=by simp[setObj,Sem.run,h]
theorem Rg(t:TypeId)(x:Operand)(au:o.op= .range t x)(aJ:P.underlying t=some .string){b:ByteArray}(hx:aP G s x= .ad (.v (.string b)))(ag:s.base≤s.next):
 ep P G o s ({s with heap:=(s.next,.bI (rm b 0))::s.heap,next:=s.next+1}.put o.dst (.ref s.next)):=by
 intro E a w ⟨β,ro,ah⟩ K Q hK
 unfold Oper.wp
 simp only[execOp,au,ah.dR hx,Sem.run_bind,Instr.range,run_underlying aJ,Result.andThen_ok,Sem.run_pure]
 have kr:aE s.heap s.next=none:=by
  cases ai:aE s.heap s.next with
  |none=>rfl
  |some p=>have:=ah.trans.new _ _ ai;omega
 have gh:=ah.new (w':=w.alloc (.stringIter b 0)) s.next kr ag (Nat.le_refl _) (.bI (rm b 0)) (.pointer (some ⟨w.heap.size,0,none⟩)) rfl rfl rfl (by simp) (fun b ag=>Go.RowKit.Below.heap_alloc w _ b ag) (fun b ag=>by simp[cz]at ag;omega) rfl
  (.bI _ w.heap.size (.stringIter b 0) (by rw[eT];rfl) (heap_alloc_new w _) ⟨⟨_,eT _ _ _⟩,rfl⟩)
 have an:=hK _ _ ⟨_,ro,gh.put o.dst (.ref s.next) (.pointer (some ⟨w.heap.size,0,none⟩)) (.ref _ _ (Nat.lt_succ_self _) fun bH _=>(eT _ _ _).symm)⟩
 rw[run_newObj]
 exact an
theorem Re(x:Operand)(au:o.op= .next x true){id:Nat}(hx:aP G s x= .ref id){b:ByteArray}{pos:Nat}(bf:aE s.heap id=some (.bI (rm b pos)))(ar:b.size≤pos):
 cY P G o s (.tuple [.ad (.v (.bool false))]):=
 fun E a w β ro ah=>by
  have dS:=ah.heap.dq id _ bf
  cases dS with
  |bI _ F7 jy ab ae aw=>
   obtain⟨⟨gR,gJ⟩,rfl⟩:=aw
   have c5:=ah.eval x
   rw[hx]at c5;generalize he:a.eval x=c at c5
   cases c5 with
   |ref _ _ _ hc=>
    have nA:=hc _ bf
    rw[gJ]at ab nA;simp only[cz,Option.some.injEq]at ab;subst ab;refine⟨.tuple #[.bool false],?_,.tuple _ _ rfl fun j y aj=>?_⟩
    ·have hn: ¬pos<b.size:=by omega
     rw[nA]at he;simp[execOp,au,he,Instr.next,Ti ae,hn]
    ·cases j with
     |zero=>simp at aj;subst aj;exact .e3 rfl
     |succ j=>simp at aj
theorem Rc(x:Operand)(au:o.op= .next x true){id:Nat}(hx:aP G s x= .ref id){b:ByteArray}{pos:Nat}(bf:aE s.heap id=some (.bI (rm b pos)))(ar:pos<b.size){c k:Nat}(hd:Utf8.decode b pos=(c,k)):
 ep P G o s ({s with heap:=eA s.heap id (.bI (rm b (pos+k)))}.put o.dst (.tuple [.ad (.v (.bool true)),.ad (.v (.int .i64 (pos:Int))),.ad (.v (.int .i32 (c:Int)))])):=by
 intro E a w ⟨β,ro,ah⟩ K Q hK
 have dS:=ah.heap.dq id _ bf
 cases dS with
 |bI _ F7 jy ab ae aw=>
  obtain⟨⟨gR,gJ⟩,rfl⟩:=aw
  have c5:=ah.eval x
  rw[hx]at c5;generalize he:a.eval x=p5 at c5
  cases c5 with
  |ref _ _ _ hc=>
   have nA:=hc _ bf
   have rQ:=ab
   rw[gJ]at ab nA;simp only[cz,Option.some.injEq]at ab;subst ab;rw[nA]at he;unfold Oper.wp
   have cy:(execOp a.eval o).run P w= .ok (.value (.tuple #[.bool true,goInt pos,.int .i32 c])) {w with heap:=w.heap.setIfInBounds gR (.stringIter b (pos+k))}:=by
    simp[execOp,au,he,Instr.next,Ti ae,ar,hd,zdd _ ae]
   rw[cy]
   have bE:=(Array.getElem?_eq_some_iff.1 ae).1
   have hw:=ah.write (w':={w with heap:=w.heap.setIfInBounds gR (.stringIter b (pos+k))}) id _ (.bI (rm b (pos+k))) bf rfl rfl (.inr (.inr ⟨_,_,rfl,rfl⟩)) rfl rfl rfl (by simp) (fun j aj bW=>by
    have:gR≠j:=fun e=>bW (by rw[gJ,←e];rfl)
    simp[Array.getElem?_setIfInBounds_ne this]) (.bI _ gR (.stringIter b (pos+k)) rQ (by simp[bE]) ⟨⟨gR,gJ⟩,rfl⟩)
   refine hK _ _ ⟨β,ro,hw.put o.dst _ _ (.tuple _ _ rfl fun j y aj=>?_)⟩
   match j,aj with
   |0,aj=>simp at aj;subst aj;exact .e3 rfl
   |1,aj=>simp at aj;subst aj;exact .e3 rfl
   |2,aj=>simp at aj;subst aj;exact .e3 rfl
   |j+3,aj=>simp at aj
end
end Go.aK
namespace Go.aK
open Go
section
variable {P:Program} {G:aR} {o:Oper} {s:aQ} {E:Entry} {a:Act} {w w':World} {β:Nat→Value} {ro ro':Nat→Prop}
theorem dn.grow(h:dn E G s a w β ro)(qv:w'.os=w.os)(qw:w'.tape=w.tape)(iI:w'.output=w.output)(bT:w.heap.size≤w'.heap.size)(hw: ∀b,b<w.heap.size→w'.heap[b]? =w.heap[b]?)
 (cr: ∀b,ro b→ro' b)(gh: ∀b,ro' b→ro b∨(w.heap.size≤b∧b<w'.heap.size)):dn E G s a w' β ro':=by
 have an: ∀b,ro b→w'.heap[b]? =w.heap[b]? :=fun b ag=>hw b (h.heap.lt b ag)
 refine⟨h.defers,h.size,fun i x hx=>(h.slot i x hx).keep an cr (Nat.le_refl _) (fun _ t cs ai=>⟨rfl,t,cs,ai⟩) (fun _ z t _ es ai=>⟨rfl,z,t,es,ai⟩) (fun _ bH ai=>⟨rfl,bH,ai⟩),
  ⟨fun id jy ai=>(h.heap.dq id jy ai).keep an cr (Nat.le_refl _) bT rfl (fun av b ag=>hw b ((h.heap.dq id jy ai).iG av ag)) (fun _ t cs ai=>⟨rfl,t,cs,ai⟩) (fun _ z t _ es ai=>⟨rfl,z,t,es,ai⟩) (fun _ bH ai=>⟨rfl,bH,ai⟩),h.heap.inj,fun b ag au=>?_,fun b ag=>?_⟩,
  h.hL.keep an cr,?_,h.base⟩
 ·rcases gh b ag with ab|⟨ab,_⟩
  ·exact h.heap.e8 b ab au
  ·obtain⟨id,jy,ai,av,gJ⟩:=au
   have:=(h.heap.dq id jy ai).iG av gJ
   omega
 ·rcases gh b ag with ab|⟨_,ab⟩
  ·exact Nat.lt_of_lt_of_le (h.heap.lt b ab) bT
  ·exact ab
 ·have t:=h.trans
  refine⟨qv.trans t.os,qw.trans t.tape,iI.trans t.output,Nat.le_trans t.size bT,fun b ag hn=>(hw b (Nat.lt_of_lt_of_le ag t.size)).trans (t.frame b ag hn),fun b ag=>?_,fun b ag=>cr b (t.gA b ag),t.fU,t.ea,t.new,t.le⟩
  rcases gh b ag with ab|⟨ab,_⟩
  ·exact t.hz b ab
  ·exact .inr (.inr (Nat.le_trans t.size ab))
theorem ep.LV{t:TypeId}{n:Nat}{es:List (List aU)}(aV:uu P G o s t n es):ep P G o s (s.put o.dst (.ad (.aq n es))):=by
 obtain⟨hn,h⟩:=aV
 intro E a w ⟨β,ro,ah⟩ K Q hK
 obtain⟨v,xs,w',cy,h6,dG,ix,fx⟩:=h E a w β ro ah
 unfold Oper.wp
 rw[cy]
 have hw: ∀b,b<w.heap.size→w'.heap[b]? =w.heap[b]? :=fun b ag=>dG.block b ag (by simp)
 have dM:kV w' t n v es.length xs:=.EK h6
 have ai:=ah.grow (ro':=fun b=>ro b∨cz v=some b) dG.os dG.tape dG.output dG.size hw (fun _ h=>.inl h) (fun b ag=>by
  rcases ag with h|h
  ·exact .inl h
  ·exact .inr ⟨ix b h,(dM.iG h).1⟩)
 exact hK _ _ ⟨β,_,ai.put o.dst _ _ (.ad _ _ (dM.Ej hn (fun j x aj=>(fx j x aj).keep (fun b ag=>hw b (ah.heap.lt b ag)) fun _ h=>.inl h) fun b ag=>.inr ag))⟩
def kE(ks:List Nat)(l:List aC):List aC:=l.mapIdx fun i x=>if ks.contains i then x else .top
theorem Cg(ks:List Nat)(l:List aC)(i:Nat):(kE ks l)[i]? =(l[i]?).map fun x=>if ks.contains i then x else .top:=by
 simp[kE]
theorem dn.mask(h:dn E G s a w β ro)(ks:List Nat):dn E G {s with db:=kE ks s.db} a w β ro:=by
 refine⟨h.defers,by simp[kE,h.size],fun i x hx=>?_,h.heap,h.hL,h.trans,h.base⟩
 simp only[Cg]at hx
 cases hi:s.db[i]? with
 |none=>simp[hi]at hx
 |some y=>
  simp only[hi,Option.map_some,Option.some.injEq]at hx
  split at hx
  ·subst hx;exact h.slot i y hi
  ·subst hx;exact .top _
def DStep(P:Program)(G:aR)(ops:Array Oper)(dv:aQ)(T:List aC)(o:Oper)(v:aC):Prop:=
 ∀s:aQ,s.heap=dv.heap→s.next=dv.next→s.base=dv.base→s.db.length=T.length→(∀t∈o.looksAt ops,s.db[t]? =T[t]?)→
  (eS ops s o=some true∧ep P G o s (s.put o.dst v))∨(eS ops s o=some false∧v= .tuple [])
theorem LW{ks:List Nat}{l er:List aC}(hlen:l.length=er.length)(h: ∀t∈ks,l[t]? =er[t]?):kE ks l=kE ks er:=by
 apply List.ext_getElem?
 intro i
 rw[Cg,Cg]
 by_cases hi:i∈ks
 ·rw[h i hi]
 ·have hc:ks.contains i=false:=by simpa using hi
  simp only[hc]
  by_cases av:i<l.length
  ·rw[List.getElem?_eq_getElem av,List.getElem?_eq_getElem (by omega)];rfl
  ·rw[List.getElem?_eq_none (by omega),List.getElem?_eq_none (by omega)]
theorem LX{ops:Array Oper}{ks:List Nat}(an: ∀j b,o.guard=some (j,b)→∀d,mQ ops j=some d→d∈ks):eS ops {s with db:=kE ks s.db} o=eS ops s o:=by
 unfold eS
 cases ai:o.guard with
 |none=>rfl
 |some LY=>
  obtain⟨j,b⟩:=LY;simp only
  cases hd:mQ ops j with
  |none=>rfl
  |some d=>
   have hm:ks.contains d=true:=by simpa using an j b ai d hd
   simp only[Cg]
   cases ao:s.db[d]? with
   |none=>simp
   |some x=>simp only[Option.map_some,hm,if_true]
theorem LZ{ops:Array Oper}(j:Nat)(b:Bool)(ai:o.guard=some (j,b))(d:Nat)(hd:mQ ops j=some d):d∈o.looksAt ops:=by
 unfold mQ at hd
 simp[Oper.looksAt,ai,hd]
theorem DStep.val{ops:Array Oper}{dv:aQ}{T:List aC}{v:aC}(ai:eS ops ⟨kE (o.looksAt ops) T,dv.heap,dv.next,dv.base⟩ o=some true)(az:sM P G o ⟨kE (o.looksAt ops) T,dv.heap,dv.next,dv.base⟩=some v):DStep P G ops dv T o v:=by
 intro s ab ae aw hlen b4
 have hm:=LW hlen b4
 have eC:({s with db:=kE (o.looksAt ops) s.db}:aQ)=⟨kE (o.looksAt ops) T,dv.heap,dv.next,dv.base⟩:=by rw[hm,←ab,←ae,←aw]
 refine .inl ⟨by rw[←LX (ks:=o.looksAt ops) LZ,eC];exact ai,cY.step fun E a w β ro ah=>?_⟩
 have dF:=ah.mask (o.looksAt ops)
 rw[eC]at dF
 have:=Ei az E a w β ro dF
 simpa only[ab,ae]using this
theorem zde{ks:List Nat}{y:Operand}(aA: ∀t,y= .tmp t→t∈ks):aP G {s with db:=kE ks s.db} y=aP G s y:=by
 cases y with
 |tmp t=>
  have hm:ks.contains t=true:=by simpa using aA t rfl
  simp only[aP,List.getD,Cg]
  cases ao:s.db[t]? with
  |none=>rfl
  |some x=>simp only[Option.map_some,hm,if_true]
 |_=>rfl
theorem DStep.of{ops:Array Oper}{dv:aQ}{T:List aC}{v:aC}(ai:eS ops ⟨kE (o.looksAt ops) T,dv.heap,dv.next,dv.base⟩ o=some true)
 (h: ∀s:aQ,s.heap=dv.heap→s.next=dv.next→s.base=dv.base→(∀y:Operand,(∀t,y= .tmp t→t∈o.looksAt ops)→aP G s y=aP G ⟨kE (o.looksAt ops) T,dv.heap,dv.next,dv.base⟩ y)→ep P G o s (s.put o.dst v)):DStep P G ops dv T o v:=by
 intro s ab ae aw hlen b4
 have hm:=LW hlen b4
 have eC:({s with db:=kE (o.looksAt ops) s.db}:aQ)=⟨kE (o.looksAt ops) T,dv.heap,dv.next,dv.base⟩:=by rw[hm,←ab,←ae,←aw]
 refine .inl ⟨by rw[←LX (ks:=o.looksAt ops) LZ,eC];exact ai,h s ab ae aw fun y aA=>?_⟩
 rw[←eC]
 exact(zde aA).symm
end
end Go.aK
namespace Go.aK
open Go
def yV(l:List Oper)(uS:List aC)(rR:List aC)(E:Nat→Prop)(T:List aC):Prop:=
 T.length=rR.length∧∀t,t<rR.length→((∀j o,l[j]? =some o→E j→o.dst≠some t)→T[t]? =rR[t]?)∧(∀j o,l[j]? =some o→E j→o.dst=some t→T[t]? =uS[j]?)
theorem yV.same{l:List Oper}{uS rR T rB:List aC}{E yW:Nat→Prop}(h:yV l uS rR E T)(h':yV l uS rR yW rB)(t:Nat)(he: ∀j o,l[j]? =some o→o.dst=some t→(E j↔yW j)):T[t]? =rB[t]? :=by
 by_cases aJ:t<rR.length
 ·by_cases hx: ∃j o,l[j]? =some o∧E j∧o.dst=some t
  ·obtain⟨j,o,ab,ae,aw⟩:=hx
   rw[(h.2 t aJ).2 j o ab ae aw,(h'.2 t aJ).2 j o ab ((he j o ab aw).1 ae) aw]
  ·have aD: ∀j o,l[j]? =some o→E j→o.dst≠some t:=fun j o ab ae aw=>hx ⟨j,o,ab,ae,aw⟩
   have bg: ∀j o,l[j]? =some o→yW j→o.dst≠some t:=fun j o ab ae aw=>hx ⟨j,o,ab,(he j o ab aw).2 ae,aw⟩
   rw[(h.2 t aJ).1 aD,(h'.2 t aJ).1 bg]
 ·rw[List.getElem?_eq_none (by have:=h.1;omega),List.getElem?_eq_none (by have:=h'.1;omega)]
def yX(T:List aC)(dst:Option Nat)(v:aC):List aC:=
 match dst with
 |some d=>T.set d v
 |none=>T
theorem zdf(T:List aC)(dst:Option Nat)(v:aC):(yX T dst v).length=T.length:=by
 cases dst<;>simp[yX]
theorem yV.put{l:List Oper}{uS rR T:List aC}{E:Nat→Prop}(h:yV l uS rR E T){i:Nat}{o:Oper}{v:aC}(hi:l[i]? =some o)(az:uS[i]? =some v)
 (hd: ∀j p,l[j]? =some p→E j→p.dst≠none→p.dst≠o.dst){yW:Nat→Prop}(h5: ∀j,yW j↔E j∨j=i):yV l uS rR yW (yX T o.dst v):=by
 refine⟨by rw[zdf];exact h.1,fun t aJ=>⟨fun hn=>?_,fun j p aj L0 ar=>?_⟩⟩
 ·have ab:=(h.2 t aJ).1 fun j p aj L0=>hn j p aj ((h5 j).2 (.inl L0))
  cases rS:o.dst with
  |none=>exact ab
  |some d=>
   have bW:d≠t:=fun e=>hn i o hi ((h5 i).2 (.inr rfl)) (by rw[rS,e])
   simp only[yX];rw[List.getElem?_set_ne bW]
   exact ab
 ·rcases (h5 j).1 L0 with ab|ab
  ·have ae:=(h.2 t aJ).2 j p aj ab ar
   cases rS:o.dst with
   |none=>exact ae
   |some d=>
    have bW:d≠t:=fun e=>hd j p aj ab (by rw[ar];simp) (by rw[ar,rS,e])
    simp only[yX];rw[List.getElem?_set_ne bW]
    exact ae
  ·subst ab
   rw[hi]at aj;simp only[Option.some.injEq]at aj;subst aj;rw[ar];simp only[yX];rw[List.getElem?_set_self (by have:=h.1;omega),az]
section
variable {P:Program} {G:aR} {dv:aQ}
abbrev L1(ops:Array Oper)(dv:aQ)(T:List aC)(o:Oper):aQ:=⟨kE (o.looksAt ops) T,dv.heap,dv.next,dv.base⟩
theorem DStep.row{ops:Array Oper}{T:List aC}{o:Oper}{t n:Nat}{es:List (List aU)}(ai:eS ops (L1 ops dv T o) o=some true)(h:uu P G o (L1 ops dv T o) t n es):DStep P G ops dv T o (.ad (.aq n es)):=by
 intro s ab ae aw hlen b4
 have hm:=LW hlen b4
 have eC:({s with db:=kE (o.looksAt ops) s.db}:aQ)=L1 ops dv T o:=by rw[hm,ab,ae,aw]
 refine .inl ⟨by rw[←LX (ks:=o.looksAt ops) LZ,eC];exact ai,ep.LV (t:=t) ⟨h.1,fun E a w β ro ah=>?_⟩⟩
 have dF:=ah.mask (o.looksAt ops)
 rw[eC]at dF
 exact h.2 E a w β ro dF
end
end Go.aK
namespace Go.aK
open Go
section
variable {P:Program} {G:aR} {o:Oper} {s:aQ}
def ud(P:Program)(t:TypeId):Option (TypeId × Nat × List Value):=
 match P.underlying t with
 |some (.slice e)=>match P.info? e,zeroCells P e with
  |some i,some zs=>if zs.all Value.oneCell'∧zs.length=i.size∧0<i.size then some (e,i.size,zs)else none
  |_,_=>none
 |_=>none
def rT(P:Program)(G:aR)(s:aQ)(t:TypeId)(len:Nat)(parts:List (Nat × Operand)):Option (TypeId × Nat × List (List aU)):=
 match ud P t with
 |some (e,n,zs)=>
  if len=0 then(if parts.isEmpty then some (e,n,[])else none)
  else if len*n≤16777216∧(parts.map fun p=>(p.1,aP G s p.2)).all (fun p=>(c1 p.2).all (eZ s.heap))then
   match kk (fun i=>some (i*n,n)) ((List.replicate len (zs.map fun z=>aC.ad (.v z))).flatten) (parts.map fun p=>(p.1,aP G s p.2))with
   |some ds=>match jb ds with
    |some rs=>some (e,n,chunk n len rs)
    |none=>none
   |none=>none
  else none
 |none=>none
theorem A1{t:TypeId}{len:Nat}{parts:Array (Nat × Operand)}(au:o.op= .buildSlice t len parts){e n:Nat}{es:List (List aU)}(h:rT P G s t len parts.toList=some (e,n,es)):uu P G o s e n es:=by
 unfold rT at h
 split at h
 ·rename_i aF bL zs aJ
  unfold ud at aJ
  split at aJ
  ·rename_i bg hu
   split at aJ
   ·rename_i i zdg hi aT
    split at aJ
    ·rename_i hc
     simp only[Option.some.injEq,Prod.mk.injEq]at aJ;obtain⟨rfl,rfl,rfl⟩:=aJ
     split at h
     ·rename_i hlen
      subst hlen
      split at h
      ·rename_i ar
       simp only[Option.some.injEq,Prod.mk.injEq]at h;obtain⟨rfl,rfl,rfl⟩:=h;refine⟨by simp,fun E a w β ro ah=>⟨.slice (some ⟨w.heap.size,0,none⟩) 0 0,[],w.alloc (.cells #[] bg),?_,?_,World.grownBy_alloc w _ none,fun b ag=>by simp[cz]at ag,by simp⟩⟩
       ·have hU:parts= #[]:=by
         apply Array.ext';simpa using ar
        subst hU;simp[execOp,au,Instr.buildSlice,run_underlying hu,sizeOf,typeInfo,hi,Instr.fill,newRow,Sem.run_bind,Array.range_zero']
       ·exact World.ownsRow_lit w #[] 0 (Nat.zero_le _) (Nat.zero_le _) (by simp)
      ·cases h
     ·rename_i hlen
      split at h
      ·rename_i LM
       split at h
       ·rename_i ds hf
        split at h
        ·rename_i rs hl
         simp only[Option.some.injEq,Prod.mk.injEq]at h;obtain⟨rfl,rfl,rfl⟩:=h
         have Tj:0<len*i.size:=Nat.mul_pos (Nat.pos_of_ne_zero hlen) hc.2.2
         exact zc3 t len parts au hu (by simp[hi]) aT hc.1 hc.2.1 ⟨Tj,LM.1⟩ rfl LM.2 hf hl
        ·cases h
       ·cases h
      ·cases h
    ·cases aJ
   ·cases aJ
  ·cases aJ
 ·cases h
end
theorem zdh{k:Nat}(h:k+1≤9223372036854775807):IntKind.i64.wrap ((k:Int)+1)=((k+1:Nat):Int):=by
 rw[iy _ (by omega) (by omega)]
 rfl
end Go.aK
namespace Go.aK
open Go
theorem bV.zdi{s s':aQ}(k e n:Nat)(an:s.db[k]? =some (.ad (.v (.slice none 0 0))))(ag:s.base≤s.next)
 (h:({s with db:=s.db.set k (.aq s.next),heap:=(s.next,.row false e n [])::s.heap,next:=s.next+1}:aQ)=s'):bV s s':=by
 subst h
 intro E G a w ⟨β,ro,ah⟩
 have kr:aE s.heap s.next=none:=by
  cases ai:aE s.heap s.next with
  |none=>rfl
  |some p=>have:=ah.trans.new _ _ ai;omega
 have p7:=bA.val (ah.slot k _ an)
 have gh:=ah.new (w':=w) s.next kr ag (Nat.le_refl _) (.row false e n []) (.slice none 0 0) rfl rfl rfl (Nat.le_refl _) (fun _ _=>rfl) (fun c hc=>by simp[cz]at hc) rfl
  (.row e n [] [] (by rw[eT];exact⟨by simp,.inl ⟨⟨none,rfl,fun _ h=>(by cases h)⟩,rfl⟩⟩) (by simp) (by simp))
 refine⟨_,ro,gh.defers,by simpa using gh.size,fun i y aA=>?_,gh.heap,gh.hL,gh.trans,gh.base⟩
 rw[List.getElem?_set]at aA
 split at aA
 ·rename_i aD
  subst aD
  split at aA
  ·simp only[Option.some.injEq]at aA
   subst aA;refine .aq _ _ (Nat.lt_succ_self _) fun z bh bL eD _=>?_
   rw[p7];exact(eT _ _ _).symm
  ·cases aA
 ·exact gh.slot i y aA
end Go.aK
namespace Go.aK
open Go
def wP(σ:Heap):aC→Option aU
 | .ad x=>some x
 | .aq id=>match aE σ id with
  |some (.row _ _ n es)=>some (.aq n es)
  |_=>none
 | .ref id=>match aE σ id with
  |some (.bI bH)=>bH.view
  |_=>none
 |_=>none
def Ch(σ:Heap):List aC→Option (List aU)
 |[]=>some []
 |x::r=>match wP σ x,Ch σ r with
  |some y,some l=>some (y::l)
  |_,_=>none
mutual
def k5(σ:Heap):aC→aC
 | .aq id=>match aE σ id with
  |some (.row _ _ n es)=>.ad (.aq n es)
  |_=>.aq id
 | .ptr id off=>match aE σ id with
  |some (.box _ cs)=>(match Ch σ (cs.drop off)with
   |some l=>.ad (.ptr l)
   |none=>.ptr id off)
  |_=>.ptr id off
 | .agg cs=>.agg (j9 σ cs)
 | .tuple cs=>.tuple (j9 σ cs)
 | .fn f p q=>.fn f (j9 σ p) (j9 σ q)
 | .ad x=>.ad x
 | .dg id i off=>.dg id i off
 | .dN id n=>.dN id n
 | .ref id=>match aE σ id with
  |some (.bI bH)=>(match bH.view with
   |some x=>.ad x
   |none=>.ref id)
  |_=>.ref id
 | .top=>.top
def j9(σ:Heap):List aC→List aC
 |[]=>[]
 |x::r=>k5 σ x::j9 σ r
end
theorem yY(σ:Heap): ∀(l:List aC),(j9 σ l).length=l.length
 |[]=>rfl
 |x::r=>by simp[j9,yY σ r]
theorem yZ(σ:Heap): ∀{l:List aC} {j:Nat} {x:aC},(j9 σ l)[j]? =some x→∃y,l[j]? =some y∧x=k5 σ y
 |[],j,x,h=>by simp[j9]at h
 |y::r,j,x,h=>by
  cases j with
  |zero=>simp[j9]at h;exact⟨y,by simp,h.symm⟩
  |succ j=>simp[j9]at h;simpa using yZ σ h
theorem Tk(σ:Heap): ∀{l:List aC} {m:List aU},Ch σ l=some m→∀{j:Nat} {x:aU},m[j]? =some x→∃y,l[j]? =some y∧wP σ y=some x
 |[],m,h,j,x,aj=>by simp[Ch]at h;subst h;simp at aj
 |y::r,m,h,j,x,aj=>by
  simp only[Ch]at h
  split at h
  ·rename_i z l ab ae
   simp only[Option.some.injEq]at h;subst h
   cases j with
   |zero=>simp at aj;subst aj;exact⟨y,rfl,ab⟩
   |succ j=>simp at aj;simpa using Tk σ ae aj
  ·cases h
abbrev y0(ro:Nat→Prop)(σ:Heap)(β:Nat→Value):Nat→Prop:=fun b=>ro b∨Own σ β b
theorem Tl{w:World}{ro:Nat→Prop}{σ:Heap}{β:Nat→Value}{N id:Nat}(aV:gI w ro σ β N){z:Bool}{t:TypeId}{n:Nat}{es:List (List aU)}(ai:aE σ id=some (.row z t n es)):de w (y0 ro σ β) (.aq n es) (β id):=by
 have au:=aV.dq id _ ai
 cases au with
 |row t n es xs ab ae aw=>exact ab.Ej ae (fun j x aj=>(aw j x aj).keep (fun _ _=>rfl) fun _ h=>.inl h) fun b ag=>.inr ⟨id,_,ai,rfl,ag⟩
 |fW t n es ab=>exact ab.keep (fun _ _=>rfl) fun _ h=>.inl h
theorem Tm{w:World}{ro:Nat→Prop}{σ:Heap}{β:Nat→Value}{N id:Nat}(aV:gI w ro σ β N){bH:yI}(ai:aE σ id=some (.bI bH)){ad:aU}(az:bH.view=some ad):de w (y0 ro σ β) ad (β id):=by
 have au:=aV.dq id _ ai
 cases au with
 |bI _ b o ab ae aw=>exact bH.So ad az w ro _ _ o b aw ab ae (fun _ h=>.inl h) (.inr ⟨id,_,ai,rfl,ab⟩)
theorem zdj{w:World}{ro:Nat→Prop}{σ:Heap}{β:Nat→Value}{N:Nat}(aV:gI w ro σ β N){x:aC}{c:Value}{y:aU}(h:bA w ro σ β N x c)(aA:wP σ x=some y):de w (y0 ro σ β) y c:=by
 cases h with
 |ad x c hx=>
  simp only[wP,Option.some.injEq]at aA;subst aA;exact hx.keep (fun _ _=>rfl) fun _ h=>.inl h
 |aq id c av ar=>
  simp only[wP]at aA
  split at aA
  ·rename_i z t n es ai
   simp only[Option.some.injEq]at aA;subst aA;rw[ar z t n es ai];exact Tl aV ai
  ·cases aA
 |ref id c av ar=>
  simp only[wP]at aA
  split at aA
  ·rename_i bH ai
   rw[ar bH ai];exact Tm aV ai aA
  ·cases aA
 |_=>cases aA
theorem Tn{w:World}{ro:Nat→Prop}{σ:Heap}{β:Nat→Value}{N:Nat}(aV:gI w ro σ β N){x:aC}{c:Value}(h:bA w ro σ β N x c):bA w (y0 ro σ β) σ β N (k5 σ x) c:=by
 induction h with
 |aq id c av ar=>
  simp only[k5]
  split
  ·rename_i z t n es ai
   rw[ar z t n es ai];exact .ad _ _ (Tl aV ai)
  ·exact .aq id c av ar
 |ptr id off c av ar=>
  simp only[k5]
  split
  ·rename_i t cs ai
   split
   ·rename_i l L2
    obtain⟨b,ag,rfl⟩:=ar t cs ai
    have au:=aV.dq id _ ai
    cases au with
    |box t cs gR arr aD bg cM dU=>
     rw[ag]at aD;simp only[Value.pointer.injEq,Option.some.injEq,Addr.mk.injEq,and_true]at aD;subst aD
     have at_: ∀j x,l[j]? =some x→∃y,cs[off+j]? =some y∧wP σ y=some x:=fun j x aj=>by
      obtain⟨y,ab,ae⟩:=Tk σ L2 aj;rw[List.getElem?_drop]at ab
      exact⟨y,ab,ae⟩
     refine .ad _ _ (.ptr l _ (fun j=>arr.getD (off+j) undef) (fun j x aj=>?_) fun j x aj=>?_)
     ·obtain⟨y,ab,_⟩:=at_ j x aj
      refine⟨.inr ⟨id,_,ai,rfl,by rw[ag];rfl⟩,?_⟩
      have bE:off+j<arr.size:=by rw[cM];exact(List.getElem?_eq_some_iff.1 ab).1
      rw[addLit,cell_of_row w b (off+j) arr t (0,0) bg];simp[bE]
     ·obtain⟨y,ab,ae⟩:=at_ j x aj
      exact zdj aV (dU _ y ab) ae
   ·exact .ptr id off c av ar
  ·exact .ptr id off c av ar
 |ad x c h=>exact .ad x c (h.keep (fun _ _=>rfl) fun _ h=>.inl h)
 |agg cs c ab _ aY=>
  refine .agg _ c (by rw[yY];exact ab) fun j x aj=>?_
  obtain⟨y,aA,rfl⟩:=yZ σ aj;exact aY j y aA
 |tuple cs c ab _ aY=>
  refine .tuple _ c (by rw[yY];exact ab) fun j x aj=>?_
  obtain⟨y,aA,rfl⟩:=yZ σ aj;exact aY j y aA
 |dg id i off c ab ae=>exact .dg id i off c ab ae
 |dN id n c ab ae=>exact .dN id n c ab ae
 |fn f p q c d ab ae _ _ hv hy=>
  refine .fn f _ _ c d (by rw[yY];exact ab) (by rw[yY];exact ae) (fun j x aj=>?_) (fun j x aj=>?_)
  ·obtain⟨y,aA,rfl⟩:=yZ σ aj
   exact hv j y aA
  ·obtain⟨y,aA,rfl⟩:=yZ σ aj
   exact hy j y aA
 |ref id c av ar=>
  simp only[k5]
  split
  ·rename_i bH ai
   split
   ·rename_i ad az
    rw[ar bH ai];exact .ad _ _ (Tm aV ai az)
   ·exact .ref id c av ar
  ·exact .ref id c av ar
 |top c=>exact .top c
mutual
def mB:aC→Bool
 | .ad (.v _)=>true
 | .agg cs=>qF cs
 | .tuple cs=>qF cs
 |_=>false
def qF:List aC→Bool
 |[]=>true
 |x::r=>mB x&&qF r
end
theorem F8: ∀{cs:List aC},qF cs=true→∀{j:Nat} {x:aC},cs[j]? =some x→mB x=true
 |[],_,j,x,h=>by simp at h
 |y::r,ag,j,x,h=>by
  simp only[qF,Bool.and_eq_true]at ag
  cases j with
  |zero=>simp at h;subst h;exact ag.1
  |succ j=>simp at h;exact F8 ag.2 h
theorem To{w w':World}{ro ro':Nat→Prop}{σ cc:Heap}{β rM:Nat→Value}{N M:Nat}{x:aC}{c:Value}(h:bA w ro σ β N x c)(ar:mB x=true):bA w' ro' cc rM M x c:=by
 induction h with
 |ad x c h=>
  cases h with
  |v _ hx=>exact .ad _ _ (.v _ hx)
  |ptr=>simp[mB]at ar
  |aq=>simp[mB]at ar
  |mp=>simp[mB]at ar
  |ei=>simp[mB]at ar
  |li=>simp[mB]at ar
 |agg cs c ab _ aY=>
  simp only[mB]at ar;exact .agg cs c ab fun j x aj=>aY j x aj (F8 ar aj)
 |tuple cs c ab _ aY=>
  simp only[mB]at ar;exact .tuple cs c ab fun j x aj=>aY j x aj (F8 ar aj)
 |_=>simp[mB]at ar
section
variable {P:Program} {G:aR} {s:aQ}
theorem QZ{o:Oper}{f:FuncId}{p q:Array Operand}(au:o.op= .makeFunc (.func f) p q):cY P G o s (.fn (.func f) (p.toList.map (aP G s)) (q.toList.map (aP G s))):=
 fun _ a w β ro ah=>by
  refine⟨.func (.func f) (p.map a.eval) (q.map a.eval),by simp[execOp,au,Instr.makeFunc],.fn _ _ _ _ _ (by simp) (by simp) (fun j x aj=>?_) (fun j x aj=>?_)⟩<;>
  ·rw[List.getElem?_map]at aj
   rw[Array.getD_eq_getD_getElem?,Array.getElem?_map]
   simp only[Array.getElem?_toList]at aj
   obtain⟨z,aT,rfl⟩:=Option.map_eq_some_iff.1 aj;simp only[aT,Option.map_some,Option.getD_some];exact ah.eval z
end
end Go.aK
namespace Go.aK
open Go
def Ci:aU→aU
 | .aq _ []=>.v (.slice none 0 0)
 | .li _ []=>.v (.slice none 0 0)
 |x=>x
theorem Tp{w:World}{ro:Nat→Prop}{x:aU}{v:Value}(h:Ci x= .v v)(az:v.oneCell'=true):de w ro x v:=by
 unfold Ci at h
 split at h
 ·rename_i n
  simp only[aU.v.injEq]at h;subst h;exact .aq n [] none 0 (fun _=>undef) (Nat.le_refl _) (Nat.zero_le _) (by simp) (by simp) (by simp)
 ·rename_i i
  simp only[aU.v.injEq]at h;subst h;exact .li i [] _ (.aq (du i) [] none 0 (fun _=>undef) (Nat.le_refl _) (Nat.zero_le _) (by simp) (by simp) (by simp))
 ·subst h
  exact .v _ az
section
variable {P:Program} {G:aR} {o:Oper} {s:aQ}
theorem zdk{α:Type}(C:α→List aU)(d:α)(m c:Nat){t:TypeId}{x y:Operand}(au:o.op= .makeSlice t x y){e n bytes:Nat}(aJ:qa P t=some (e,n,bytes)){zs:List Value}(aT:zeroCells P e=some zs)(qC:zs.all Value.oneCell'=true)
 (hd:zs.map aU.v=(C d).map Ci)(hx:aP G s x=xW (m:Int))(aA:aP G s y=xW (c:Int))(bT:m≤c∧c≤maxLen∧bytes*c≤281474976710656):
 uu P G o s e n ((List.replicate m d).map C):=by
 obtain⟨i,z,hu,hi,Cc,hR,jQ,iu,hn⟩:=rD aJ
 obtain⟨hs,_,oC,yS,hC,lP⟩:=yM (P:=P) aT default
 have Cd:z.cells=zs.toArray:=by
  rw[hi]at hC;simp only[Option.some.injEq]at hC;subst hC;rw[Cc]at lP;simp only[Option.some.injEq]at lP;subst lP;exact oC
 have k4:zs.length=n:=by rw[←iu,Cd];simp
 have lY:(C d).length=n:=by rw[←k4];have:=congrArg List.length hd;simpa using this.symm
 have pn: ∀q∈(List.replicate m d).map C,q.length=n:=by
  intro q aG;rw[List.mem_map]at aG;obtain⟨u,hu,rfl⟩:=aG;rw[List.mem_replicate]at hu;rw[hu.2];exact lY
 refine⟨pn,fun E a w β ro ah=>?_⟩
 have zdl:(c:Int)≤9223372036854775807:=by
  have h:=bT.2.1
  simp only[maxLen]at h;omega
 have Ce:(i.bytes:Int)*(c:Int)≤281474976710656:=by
  have h:((i.bytes*c:Nat):Int)≤281474976710656:=by rw[jQ];have:=bT.2.2;omega
  rwa[Int.natCast_mul]at h
 have cy:=run_make (P:=P) w t e i z hu hi Cc .i64 .i64 (m:Int) (c:Int) (by omega) (by have:=bT.1;omega) Ce zdl
 simp only[Int.toNat_natCast,hR]at cy
 refine⟨.slice (some ⟨w.heap.size,0,none⟩) m c,(madeCells z.cells (c*n)).toList.take (m*n),_,by simp only[execOp,au,ah.dR hx,ah.dR aA,Sem.run_bind,cy,Result.andThen_ok,Sem.run_pure],⟨?_,.inr ⟨w.heap.size,c,madeCells z.cells (c*n),by rw[List.length_map,List.length_replicate],Nat.zero_le _,heap_alloc_new w _,by rw[List.length_map,List.length_replicate];exact bT.1,bT.2.1,size_madeCells _ _,by rw[List.length_map,List.length_replicate]⟩⟩,World.grownBy_alloc w _ none,fun b bc=>?_,fun j x aj=>?_⟩
 ·rw[List.length_take,Array.length_toList,size_madeCells,List.length_map,List.length_replicate,Nat.min_eq_left (Nat.mul_le_mul_right _ bT.1)]
 ·simp only[cz]at bc
  split at bc
  ·cases bc
  ·simp at bc;omega
 ·have dj:j<m*n:=by
   have:=(List.getElem?_eq_some_iff.1 aj).1
   rwa[jh pn,List.length_map,List.length_replicate]at this
  have hm:j=(j/ n)*n+j%n:=by rw[Nat.mul_comm];exact(Nat.div_add_mod j n).symm
  have lX:j%n<n:=Nat.mod_lt _ hn
  have zdm:j/ n<m:=by rw[Nat.div_lt_iff_lt_mul hn];exact dj
  rw[hm,pk pn (i:=j/ n) (e:=C d) (by simp[zdm]) (j%n) lX]at aj
  have aw:j%n<zs.length:=by omega
  have B1:j<c*n:=Nat.lt_of_lt_of_le dj (Nat.mul_le_mul_right _ bT.1)
  have aD:((madeCells z.cells (c*n)).toList.take (m*n)).getD j undef=zs[j%n]:=by
   simp[List.getD,dj,madeCells,Cd,B1,k4,List.getElem?_eq_getElem aw]
  rw[aD]
  have ux:=congrArg (·[j%n]?) hd
  simp only[List.getElem?_map,aj,List.getElem?_eq_getElem aw,Option.map_some,Option.some.injEq]at ux
  refine Tp ux.symm ?_
  rw[List.all_eq_true]at qC;exact qC _ (List.getElem_mem aw)
end
section
variable {P:Program} {G:aR} {o:Oper} {s:aQ}
theorem Tq(j:Nat){t:TypeId}{x i:Operand}(au:o.op= .index t x i){len e:Nat}(hu:P.underlying t=some (.array len e))(hsc:scalar P e=true)(bT:(P.info? e).map (·.size)=some 1)(hi:aP G s i=xW (j:Int)){cs:List aC}(hx:aP G s x= .agg cs){v:aC}(az:cs[j]? =some v)(aj:j<len):cY P G o s v:=
 fun _ a w β ro ah=>by
  have h:=ah.eval x
  rw[hx]at h;generalize he:a.eval x=c at h
  cases h with
  |agg _ c ao hc=>
   have bE:j<c.size:=by have:=(List.getElem?_eq_some_iff.1 az).1;omega
   have vW:(sizeOf e).run P w= .ok 1 w:=by
    cases hi:P.info? e with
    |none=>simp[hi]at bT
    |some i=>simp[hi]at bT;simp[sizeOf,typeInfo,hi,bT]
   refine⟨c[j],?_,by simpa[bE]using hc _ v az⟩
   simp[execOp,au,he,ah.dR hi,Instr.index,asIntOf,run_underlying hu,vW,part,xT hsc,bE,aj]
end
section
variable {P:Program} {G:aR}
theorem Tr{α:Type}{a:Array α}{x:α}(h:a.toList=[x]):a= #[x]:=by apply Array.ext';simpa using h
theorem Cj{α:Type}{a:Array α}{x y:α}(h:a.toList=[x,y]):a= #[x,y]:=by apply Array.ext';simpa using h
end
end Go.aK
namespace Go.aK
open Go
section
variable {P:Program} {G:aR} {Q:Exit→aQ→Prop} {s s':aQ}
def Z(n:Nat)(l:List (Nat × aC))(h:Heap)(m:Nat):aQ:=⟨oH 0 (n%2000) l,h,m,n/ 2000⟩
def Ts:Heap→List Nat
 |[]=>[]
 |(k,_)::r=>k::Ts r
structure L3 where
 db:List (Nat × aC)
 heap:Heap
 len:Nat
 base:Nat
def F9(aq:List aC):List (Nat × aC)→List (Nat × aC)
 |[]=>[]
 |(k,_)::r=>(k,aq.getD k .top)::F9 aq r
def L4(l:List (Nat × aC))(h:Heap)(s:aQ):L3:=⟨F9 s.db l,yP s.heap (Ts h),s.db.length,s.base⟩
abbrev Tt(l:List (Nat × aC))(h:Heap)(n:Nat):L3:=⟨l,h,n%2000,n/ 2000⟩
theorem Ga: ∀{n j:Nat} {l:List (Nat × aC)} {i:Nat} {x:aC},(oH j n l)[i]? =some x→x= .top∨(j+i,x)∈l
 |0,_,_,i,x,h=>by simp[oH]at h
 |n+1,j,[],i,x,h=>by
  cases i with
  |zero=>simp[oH]at h;exact .inl h.symm
  |succ i=>
   simp only[oH,List.getElem?_cons_succ]at h
   rcases Ga h with h|h
   ·exact .inl h
   ·cases h
 |n+1,j,(k,v)::r,i,x,h=>by
  simp only[oH]at h
  split at h
  ·rename_i e
   subst e
   cases i with
   |zero=>simp at h;subst h;exact .inr (by simp)
   |succ i=>
    simp only[List.getElem?_cons_succ]at h
    rcases Ga h with h|h
    ·exact .inl h
    ·exact .inr (List.mem_cons_of_mem _ (by rw[←Nat.add_assoc,Nat.add_right_comm];exact h))
  ·cases i with
   |zero=>simp at h;exact .inl h.symm
   |succ i=>
    simp only[List.getElem?_cons_succ]at h
    rcases Ga h with h|h
    ·exact .inl h
    ·exact .inr (by rw[←Nat.add_assoc,Nat.add_right_comm];exact h)
theorem L5: ∀(n j:Nat) (l:List (Nat × aC)),(oH j n l).length=n
 |0,_,_=>by simp[oH]
 |n+1,j,[]=>by simp[oH,L5 n]
 |n+1,j,(k,v)::r=>by
  simp only[oH]
  split<;>simp[L5 n]
theorem Tu{aq:List aC}: ∀{l:List (Nat × aC)},F9 aq l=l→∀{k:Nat} {v:aC},(k,v)∈l→aq.getD k .top=v
 |[],_,k,v,h=>by cases h
 |(j,u)::r,he,k,v,h=>by
  simp only[F9,List.cons.injEq,Prod.mk.injEq,true_and]at he
  rcases List.mem_cons.1 h with h|h
  ·cases h;exact he.1
  ·exact Tu he.2 h
theorem zdn{n:Nat}{l:List (Nat × aC)}{h:Heap}{m:Nat}(he:L4 l h s=Tt l h n)(hm:s.next≤m):bV s (Z n l h m):=by
 simp only[L4,L3.mk.injEq]at he
 obtain⟨ab,ae,aw,aM⟩:=he
 intro E G a w ⟨β,ro,ah⟩
 have fC: ∀id o,aE h id=some o→aE s.heap id=some o:=by rw[←ae];exact LC s.heap _
 have grow: ∀x c,bA w ro s.heap β s.next x c→bA w ro h β m x c:=fun x c hx=>(hx.sub fC).keep (fun _ _=>rfl) (fun _ h=>h) hm (fun id t cs ai=>⟨rfl,t,cs,ai⟩) (fun id z t n es ai=>⟨rfl,z,t,es,ai⟩) (fun id bH ai=>⟨rfl,bH,ai⟩)
 refine⟨β,ro,ah.defers,by simp[Z,L5,←aw,ah.size],fun i x hx=>?_,?_,ah.hL,?_,by show E.n≤n/ 2000;rw[←aM];exact ah.base⟩
 ·rcases Ga hx with rfl|hx
  ·exact .top _
  ·rw[Nat.zero_add]at hx
   have az:=Tu ab hx
   cases hi:s.db[i]? with
   |none=>
    simp only[List.getD,hi,Option.getD_none]at az;subst az;exact .top _
   |some y=>
    simp only[List.getD,hi,Option.getD_some]at az;subst az;exact grow _ _ (ah.slot i _ hi)
 ·have aV:=ah.heap.sub fC
  exact⟨fun id o ai=>(aV.dq id o ai).keep (fun _ _=>rfl) (fun _ h=>h) hm (Nat.le_refl _) rfl (fun _ _ _=>rfl) (fun id t cs ai=>⟨rfl,t,cs,ai⟩) (fun id z t n es ai=>⟨rfl,z,t,es,ai⟩) (fun id bH ai=>⟨rfl,bH,ai⟩),aV.inj,aV.e8,aV.lt⟩
 ·have t:=ah.trans.sub fC
  exact⟨t.os,t.tape,t.output,t.size,t.frame,t.hz,t.gA,t.fU,t.ea,fun id o ai=>Nat.lt_of_lt_of_le (t.new id o ai) hm,Nat.le_trans t.le hm⟩
end
theorem DStep.bs{P:Program}{G:aR}{ops:Array Oper}{dv:aQ}{T:List aC}{o:Oper}{v:aC}(ai:eS ops ⟨kE (o.looksAt ops) T,dv.heap,dv.next,dv.base⟩ o=some true:=by as_aux_lemma=>kernel_rfl)
 (az:sM P G o ⟨kE (o.looksAt ops) T,dv.heap,dv.next,dv.base⟩=some v:=by as_aux_lemma=>kernel_rfl):DStep P G ops dv T o v:=DStep.val ai az
end Go.aK
namespace Go.aK
open Go
inductive Step (R A:Type) where
 |ret (r:R)
 |c9 (a:A)
 |bM (a:A)
def bJ{R A:Type}(b:Nat→A→Step R A):Nat→Nat→A→R⊕A
 |_,0,a=>.inr a
 |k,m+1,a=>match b k a with
  | .ret r=>.inl r
  | .c9 a=>.inr a
  | .bM a=>bJ b (k+1) m a
theorem zdo{R A:Type}{b:Nat→A→Step R A}{k n:Nat}{a bb:A}{L:R⊕A}(h:L=bJ b k (n-k) a)(an:k<n)(ag:b k a= .bM bb):L=bJ b (k+1) (n-(k+1)) bb:=by
 rw[h,show n-k=(n-(k+1))+1 from by omega]
 simp[bJ,ag]
theorem zdp{R A:Type}{b:Nat→A→Step R A}{k n:Nat}{a:A}{r:R}{L:R⊕A}(h:L=bJ b k (n-k) a)(an:k<n)(ag:b k a= .ret r):L= .inl r:=by
 rw[h,show n-k=(n-k-1)+1 from by omega]
 simp[bJ,ag]
theorem zdq{R A:Type}{b:Nat→A→Step R A}{k n:Nat}{a bb:A}{L:R⊕A}(h:L=bJ b k (n-k) a)(an:k<n)(ag:b k a= .c9 bb):L= .inr bb:=by
 rw[h,show n-k=(n-k-1)+1 from by omega]
 simp[bJ,ag]
theorem zdr{R A:Type}{b:Nat→A→Step R A}{k n:Nat}{a:A}{L:R⊕A}(h:L=bJ b k (n-k) a)(an:n≤k):L= .inr a:=by
 rw[h,show n-k=0 from by omega]
 rfl
section
variable {P:Program} {G:aR} {s:aQ} {Q:Exit→aQ→Prop}
def y2(P:Program)(G:aR)(c:Code)(Q:Exit→aQ→Prop)(n:Nat)(s:aQ):Prop:=∀E a w,Rel E G s a w→Code.rounds P c (lift E G Q) n a w
theorem b2.rounds{c:Code}(n:Nat)(h:y2 P G c Q n s):b2 P G (.loop c) Q s:=fun E a w ah=>wp_loop_rounds n (h E a w ah)
theorem y2.rd{c:Code}(n:Nat)(h:b2 P G c (fun e s'=>match e with
      | .normal=>y2 P G c Q n s'
      |e=>Q e s') s):y2 P G c Q (n+1) s:=fun E a w ah=>by
  rw[rounds_succ];refine wp_mono (h E a w ah) fun e bb w' aG=>?_
  obtain⟨s',ab,ae⟩:=aG
  cases e with
  |normal=>exact ab E bb w' ae
  |_=>exact⟨s',ab,ae⟩
end
theorem b2.zds{P:Program}{G:aR}{Q:Exit→aQ→Prop}{s:aQ}{c:Code}(k e n:Nat)(h:b2 P G c Q {s with db:=s.db.set k (.aq s.next),heap:=(s.next,.row false e n [])::s.heap,next:=s.next+1})
 (an:s.db[k]? =some (.ad (.v (.slice none 0 0))):=by as_aux_lemma=>kernel_rfl)(ag:Nat.ble s.base s.next=true:=by as_aux_lemma=>kernel_rfl):b2 P G c Q s:=
 b2.le (bV.zdi k e n an (Nat.le_of_ble_eq_true ag) rfl) h
end Go.aK
namespace Go.aK
open Go
section
variable {P:Program} {G:aR} {dv:aQ}
theorem mh{ops:Array Oper}{E:Entry}{s:aQ}{a:Act}{w:World}{o:Oper}{b:Bool}(ah:Rel E G s a w)(ai:eS ops s o=some b):Region.wanted o (yielded ops a.tmps)=b:=by
 unfold eS at ai
 split at ai
 ·rename_i hn
  simp at ai;subst ai;simp[Region.wanted,hn]
 ·rename_i j c hn
  split at ai
  ·rename_i d hdd
   split at ai
   ·rename_i pz ao
    have aA:=LA ah hdd ao
    simp only[Option.some.injEq]at ai
    cases c<;>cases pz<;>simp at ai<;>subst ai<;>simp[Region.wanted,hn,aA]
   ·rename_i cs ao
    have aA:=SS ah hdd ao
    simp at ai;subst ai;simp[Region.wanted,hn,aA]
   ·cases ai
  ·cases ai
end
end Go.aK
namespace Go.aK
open Go
theorem L6{P:Program}{o:Oper}{a:Act}{w:World}{K K':Act→World→Prop}{Q Q':Exit→Act→World→Prop}(h: ∀a w,K a w→K' a w)(ar: ∀c a w,Q (.panic c) a w→Q' (.panic c) a w)(au:LetsOut Q→LetsOut Q')
 (aV:o.wp P a w K Q):o.wp P a w K' Q':=by
 unfold Oper.wp at*
 generalize (execOp a.eval o).run P w=r at*
 cases r with
 |ok n w'=>
  cases n<;>simp only[Oper.upon]at aV⊢ <;>
   first
    |exact h _ _ aV
    |exact Calls.mono aV (fun e zj7 he=>by cases e<;>first|exact h _ _ he|exact ar _ _ _ he|exact au he)
    |exact Rows.mono aV (fun _ _ he=>h _ _ he)
 |halt x w'=>cases x<;>simp only[Oper.upon]at aV⊢ <;>first|exact ar _ _ _ aV|exact aV
section
variable {P:Program} {G:aR} {Q:Exit→aQ→Prop} {L:List Oper}
def Ends(t:aQ):Exit→aQ→Prop:=fun e bh=>e= .normal∧bh=t
def ny(Q:Exit→aQ→Prop):Exit→aQ→Prop:=fun e s=>e= .normal∧Q .normal s
def uT(P:Program)(G:aR)(L:List Oper)(Q:Exit→aQ→Prop)(fuel:Nat)(m:List Bool)(s:aQ):Prop:=∀E a w,Rel E G s a w→wpAny P .any L.toArray (lift E G (ny Q)) fuel m.toArray a w
inductive y3 (P:Program) (G:aR) (L:List Oper) (Q:Exit→aQ→Prop) (fuel:Nat) (m:List Bool) (s:aQ):List Nat→Prop where
 |nil:y3 P G L Q fuel m s []
 |cons {i:Nat} {r:List Nat} {o:Oper} (s':aQ) (au:L[i]? =some o) (ao:c8 P G L.toArray (Ends s') [o] s) (k:uT P G L Q fuel (m.set i true) s') (ah:y3 P G L Q fuel m s r):y3 P G L Q fuel m s (i::r)
theorem y3.at{fuel:Nat}{m:List Bool}{s:aQ}{rd:List Nat}(h:y3 P G L Q fuel m s rd){i:Nat}(hi:i∈rd): ∃o s',L[i]? =some o∧c8 P G L.toArray (Ends s') [o] s∧uT P G L Q fuel (m.set i true) s':=by
 induction h with
 |nil=>cases hi
 |cons s' au ao k _ aY=>
  rcases List.mem_cons.1 hi with rfl|h
  ·exact⟨_,s',au,ao,k⟩
  ·exact aY h
theorem uT.step{fuel:Nat}{m:List Bool}{s:aQ}(i0:Nat)(rd:List Nat)(ao:y3 P G L Q fuel m s (i0::rd))(h:Region.ready .any L.toArray m.toArray=i0::rd:=by as_aux_lemma=>kernel_rfl):uT P G L Q (fuel+1) m s:=by
 intro E a w ah
 refine⟨fun hn=>(by rw[h]at hn;cases hn),fun i hi=>?_⟩
 rw[h]at hi
 obtain⟨o,s',au,ab,ae⟩:=ao.at hi
 have aw:=ab E a w ah
 have eA:m.toArray.setIfInBounds i true=(m.set i true).toArray:=by simp
 have next: ∀bb w',lift E G (Ends s') .normal bb w'→wpAny P .any L.toArray (lift E G (ny Q)) fuel (m.toArray.setIfInBounds i true) bb w':=by
  rintro bb w' ⟨t,⟨_,rfl⟩,dF⟩
  rw[eA];exact ae E bb w' dF
 unfold wpOp
 rw[show L.toArray[i]? =some o from by simpa using au]
 simp only
 unfold wpList at aw
 split at aw
 ·rename_i hw
  rw[if_pos hw]
  have iI:LetsOut (lift E G (Ends s'))→LetsOut (lift E G (ny Q)):=by
   rintro⟨_,_,_,⟨hn,_⟩,_⟩
   cases hn
  rcases aw with aw|⟨aw,aM⟩
  ·refine .inl (L6 (fun bb w' an=>next bb w' an) (fun c a w=>?_) iI aw)
   rintro⟨_,⟨hn,_⟩,_⟩
   cases hn
  ·exact .inr ⟨aw,iI aM⟩
 ·rename_i hw
  rw[if_neg hw];exact next _ _ aw
def gL(P:Program)(G:aR)(ops:Array Oper)(o:Oper)(s s':aQ):Prop:=∀E a w,Rel E G s a w→∃v,Yields P ops o v a∧Rel E G s' (a.put o.dst v) w
def lu(P:Program)(G:aR)(o:Oper)(s:aQ):Option aC:=
 match o.op with
 | .move x=>some (aP G s x)
 | .assign x=>some (aP G s x)
 | .fieldAddr t x f=>match sA P t f,jt s.heap (aP G s x)with
  |some k,true=>some (p1 k (aP G s x))
  |_,_=>none
 | .nilCheck x=>match jt s.heap (aP G s x)with
  |true=>some (aP G s x)
  |false=>none
 |_=>none
theorem gL.val{ops:Array Oper}{o:Oper}{s:aQ}{v:aC}(az:lu P G o s=some v)(ai:eS ops s o=some true):gL P G ops o s (s.put o.dst v):=by
 intro E a w ⟨β,ro,ah⟩
 have hw:=mh (ops:=ops) ⟨β,ro,ah⟩ ai
 unfold lu at az
 split at az
 ·rename_i x au
  simp only[Option.some.injEq]at az;subst az;exact⟨_,.inl ⟨hw,fun w'=>by simp[execOp,au]⟩,β,ro,ah.put _ _ _ (ah.eval x)⟩
 ·rename_i x au
  simp only[Option.some.injEq]at az;subst az;exact⟨_,.inl ⟨hw,fun w'=>by simp[execOp,au]⟩,β,ro,ah.put _ _ _ (ah.eval x)⟩
 ·rename_i t x f au
  split at az
  ·rename_i k an hc
   simp only[Option.some.injEq]at az;subst az;obtain⟨c7,he,dE⟩:=BW hc (ah.eval x);exact⟨_,.inl ⟨hw,fun w'=>by simp[execOp,au,he,St an]⟩,β,ro,ah.put _ _ _ (dE k)⟩
  ·cases az
 ·rename_i x au
  split at az
  ·rename_i hc
   simp only[Option.some.injEq]at az;subst az;obtain⟨c7,he,dE⟩:=BW hc (ah.eval x);exact⟨_,.inl ⟨hw,fun w'=>by simp[execOp,au,he]⟩,β,ro,ah.put _ _ _ (he ▸ ah.eval x)⟩
  ·cases az
 ·cases az
theorem gL.skip{ops:Array Oper}{o:Oper}{s:aQ}(ai:eS ops s o=some false):gL P G ops o s (s.put o.dst (.tuple [])):=by
 intro E a w ah
 have hw:=mh (ops:=ops) ah ai
 exact⟨undef,.inr ⟨hw,rfl⟩,ah.x1 o.dst⟩
theorem Gb{ops:Array Oper}{Q Q':Exit→Act→World→Prop}(hn: ∀a w,Q .normal a w→Q' .normal a w)(ar: ∀c a w,Q (.panic c) a w→Q' (.panic c) a w)(au:LetsOut Q→LetsOut Q'):
 ∀(fuel:Nat) (m:Array Bool) (a:Act) (w:World),wpAny P .any ops Q fuel m a w→wpAny P .any ops Q' fuel m a w
 |0,m,a,w,h=>⟨h.1,hn _ _ h.2⟩
 |fuel+1,m,a,w,h=>by
  refine⟨fun ah=>hn _ _ (h.1 ah),fun i hi=>?_⟩
  have ae:=h.2 i hi
  unfold wpOp at ae⊢
  split at ae
  ·exact Gb hn ar au fuel _ _ _ ae
  ·rename_i o _
   by_cases hw:Region.wanted o (yielded ops a.tmps)=true
   ·rw[if_pos hw]at ae⊢
    rcases ae with ae|⟨ae,aw⟩
    ·exact .inl (L6 (fun bb w' an=>Gb hn ar au fuel _ _ _ an) ar au ae)
    ·exact .inr ⟨ae,au aw⟩
   ·rw[if_neg hw]at ae⊢
    exact Gb hn ar au fuel _ _ _ ae
theorem b2.zdt{id:Nat}{s:aQ}(n:Nat)(h:uT P G L Q n (List.replicate n false) s)(L7:P.follows .mixedOrders=true:=by as_aux_lemma=>kernel_rfl)(hn:Nat.beq L.length n=true:=by as_aux_lemma=>kernel_rfl):b2 P G (.region id L.toArray true) Q s:=by
 have hn:=Nat.eq_of_beq_eq_true hn
 subst hn
 intro E a w ah
 refine wp_region_any L7 (Gb (Q:=lift E G (ny Q)) (fun a w ⟨t,⟨_,ab⟩,ae⟩=>⟨t,ab,ae⟩) (fun c a w ⟨_,⟨hn,_⟩,_⟩=>by cases hn) (by rintro⟨_,_,_,⟨hn,_⟩,_⟩;cases hn) _ _ _ _ ?_)
 obtain⟨β,ro,ah⟩:=ah
 have ai:=ah.grow (w':={w with drawn:=w.drawn+1}) (ro':=ro) rfl rfl rfl (Nat.le_refl _) (fun _ _=>rfl) (fun _ h=>h) (fun _ h=>.inl h)
 have:=h E a _ ⟨β,ro,ai⟩
 simpa using this
end
end Go.aK
