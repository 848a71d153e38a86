/- The AV calculus, part K: append, make, cuts of slices and strings, small builtins, conversions. Conditions: none. -/
import Derived.Test.YtmkpmgfieagphaaDoorKSMj
import Derived.Maps.AppendAt
import Derived.Orders
import Derived.Laws.RangeString
import Derived.Laws.RangeAny
namespace Go.aG
open Go
def hz(σ:bp)(n:Nat):az→Option (List (List ba))
 | .au (.aL m es)=>if m=n then some es else none
 | .au (.v (.slice none 0 0))=>some []
 | .au (.li i l)=>if cO i=n then some (l.map (cF i))else none
 | .aL id=>match aA σ id with
  |some (.row _ _ m es)=>if m=n then some es else none
  |_=>none
 |_=>none
section
variable {P:Program} {G:aY} {o:Oper} {s:aJ}
theorem c6.elems{w:World}{ro:Nat→Prop}{n:Nat}{es:List (List ba)}{c:Value}(h:c6 w ro (.aL n es) c):
 ∃b cap,c= .slice b es.length cap∧(∀e∈es,e.length=n)∧(b=none→es=[])∧∃f:Nat→Value,(∀a,b=some a→∀j,j<es.length*n→w.cell? (a.add j)=some (f j))∧∀j x,es.flatten[j]? =some x→c6 w ro x (f j):=by
 cases h with
 |aL _ _ b cap f aa af ar aQ bx=>
  refine⟨b,cap,rfl,ar,fun ad=>?_,f,fun a aI j ai=>?_,bx⟩
  ·rcases Nat.eq_zero_or_pos es.length with h|h
   ·exact List.eq_nil_of_length_eq_zero h
   ·obtain⟨a,aI,_⟩:=aQ h
    rw[ad]at aI;cases aI
  ·have ak:0<es.length:=by
    rcases Nat.eq_zero_or_pos es.length with h|h
    ·rw[h]at ai;simp at ai
    ·exact h
   obtain⟨aW,DQ,hc⟩:=aQ ak;rw[aI]at DQ;simp only[Option.some.injEq]at DQ;subst DQ;exact(hc j ai).2
theorem zl{w:World}{ro:Nat→Prop}{σ:bp}{β:Nat→Value}{N:Nat}(aV:gJ w ro σ β N){x:az}{c:Value}(h:bk w ro σ β N x c){n:Nat}{es:List (List ba)}(he:hz σ n x=some es):
 ∃b cap,c= .slice b es.length cap∧(∀e∈es,e.length=n)∧(b=none→es=[])∧∃f:Nat→Value,(∀a,b=some a→∀j,j<es.length*n→w.cell? (a.add j)=some (f j))∧∀j x,es.flatten[j]? =some x→c6 w ro x (f j):=by
 cases h with
 |au x c hx=>
  cases x with
  |v y=>
   cases hx
   cases c with
   |slice a l hL=>
    cases a with
    |none=>
     cases l with
     |zero=>
      cases hL with
      |zero=>
       simp[hz]at he;subst he;exact⟨none,0,rfl,by simp,fun _=>rfl,fun _=>undef,by simp,by simp⟩
      |succ=>simp[hz]at he
     |succ=>simp[hz]at he
    |some=>simp[hz]at he
   |_=>simp[hz]at he
  |ptr=>simp[hz]at he
  |mp=>simp[hz]at he
  |li i l=>
   simp only[hz]at he
   split at he
   ·rename_i hm
    subst hm;simp only[Option.some.injEq]at he;subst he
    cases hx with
    |li _ _ _ hx=>exact hx.elems
   ·cases he
  |aL m dX=>
   simp only[hz]at he
   split at he
   ·rename_i hm
    subst hm;simp only[Option.some.injEq]at he;subst he;exact hx.elems
   ·cases he
 |aL id c an ak=>
  simp only[hz]at he
  split at he
  ·rename_i z t m dX ag
   split at he
   ·rename_i hm
    subst hm;simp only[Option.some.injEq]at he;subst he;rw[ak z t _ _ ag]
    have c7:=aV.cL id _ ag
    cases c7 with
    |row _ _ _ xs aa af ar=>
     rcases aa.2 with⟨⟨b,av,_⟩,bl⟩|⟨g,cap,cur,av,hc,So,hle,h4,ff,kv⟩
     ·have:dX=[]:=List.eq_nil_of_length_eq_zero bl
      subst this;rw[av];exact⟨b,0,rfl,by simp,fun _=>rfl,fun _=>undef,by simp,by simp⟩
     ·rw[av]
      refine⟨_,_,rfl,af,by simp,fun j=>xs.getD j undef,fun a aI j ai=>?_,ar⟩
      simp only[Option.some.injEq]at aI;subst aI;rw[addLit,Nat.zero_add,cell_of_row w g j cur t (0,0) So]
      have hx:xs[j]? =cur[j]? :=by rw[←kv,List.getElem?_take,if_pos ai];simp
      have iD:j<xs.length:=by rw[aa.1];exact ai
      rw[←hx];simp[List.getD,List.getElem?_eq_getElem iD]
    |fG _ _ _ aa=>exact aa.elems
   ·cases he
  ·cases he
 |_=>simp[hz]at he
theorem DR{w:World}(t ty e:TypeId){i:TypeInfo}{z:Value}{n bytes:Nat}(aB:P.underlying t=some (.slice e))(hi:P.info? e=some i)(bl:i.zero=some z)(hA:i.size=n)(h7:i.bytes=bytes)(nk:z.cells.size=n)(hn:0<n)
 {v:Value}{len:Nat}{xs:List Value}(dk:jG w e n v len xs){b:Option Addr}{m cap:Nat}{news:List Value}(an:news.length=m*n)(ad:b=none→m=0)(Sp: ∀a,b=some a→∀j u,news[j]? =some u→w.cell? (a.add j)=some u)
 (aa: ∀u∈news,u.oneCell'=true)(qe:len+m≤maxLen)(wb:(len+m)*bytes≤140737488355328):
 ∃bo w',(Builtin.append_ #[t,t] ty #[v,.slice b m cap]).run P w= .ok bo w'∧jG w' e n bo (len+m) (xs++news)∧w.grownBy w' (b0 v)∧(∀k,b0 bo=some k→b0 v=some k∨w.heap.size≤k):=by
 by_cases hm:m=0
 ·subst hm
  have qf:news=[]:=List.eq_nil_of_length_eq_zero (by simpa using an)
  subst qf;refine⟨v,w,?_,by simpa using dk,World.grownBy.refl w _,fun k aj=>.inl aj⟩
  have J2:(Builtin.firstCells n 0 (.slice b 0 cap)).run P w= .ok #[] w:=by
   cases b with
   |none=>simp[Builtin.firstCells]
   |some a=>simp[Builtin.firstCells,loadCells,loadCellsFrom]
  rcases dk.2 with⟨⟨c,rfl,_⟩,rfl⟩|⟨g,hL,cur,rfl,_,_,hle,_⟩
  ·cases c<;>simp[Builtin.append_,run_underlying aB,sizeOf,typeInfo,hi,hA,Builtin.lenOf,J2,storeCells]
  ·simp[Builtin.append_,run_underlying aB,sizeOf,typeInfo,hi,hA,Builtin.lenOf,J2,storeCells,hle]
 ·cases b with
  |none=>exact absurd (ad rfl) hm
  |some a=>
   have e0:=Sp a rfl
   have own:w.ownsRow 0 e n v len xs→_:=fun iC=>run_append_own_at (P:=P) w 0 t ty e i z n bytes aB hi bl hA h7 nk hn v len xs iC a m cap news an e0 aa qe wb (Nat.zero_le _)
   have fin:w.ownsRow 0 e n v len xs→v.ownBlock=b0 v→∃bo w',(Builtin.append_ #[t,t] ty #[v,.slice (some a) m cap]).run P w= .ok bo w'∧jG w' e n bo (len+m) (xs++news)∧w.grownBy w' (b0 v)∧(∀k,b0 bo=some k→b0 v=some k∨w.heap.size≤k):=by
    intro iC a1;obtain⟨bo,w',g1,g2,g3,_,g5⟩:=own iC;refine⟨bo,w',g1,.DO g2,a1 ▸ g3,fun k aj=>?_⟩
    have dZ:bo.ownBlock=some k:=by
     cases bo with
     |slice c l p=>
      cases c with
      |none=>simp[b0]at aj
      |some c=>
       simp only[b0]at aj
       split at aj
       ·cases aj
       ·simpa[Value.ownBlock]using aj
     |pointer c=>
      rcases g2.2 with⟨h,_⟩|⟨_,_,_,h,_⟩<;>cases h
     |map c=>
      rcases g2.2 with⟨h,_⟩|⟨_,_,_,h,_⟩<;>cases h
     |_=>simp[b0]at aj
    rcases g5 with h|h
    ·rw[h,a1]at dZ;exact .inl dZ
    ·rw[h]at dZ;simp at dZ;exact .inr (by omega)
   rcases dk.2 with⟨⟨c,rfl,_⟩,rfl⟩|⟨g,hL,cur,rfl,wc,ag,hle,h4,ff,kv⟩
   ·have hx:xs=[]:=List.eq_nil_of_length_eq_zero (by simpa using dk.1)
    subst hx
    cases c with
    |none=>exact fin (World.ownsRow_nil w 0 e n) rfl
    |some c=>
     have cJ:=run_append_grow (P:=P) w t ty e i z aB hi bl c 0 0 [] (by simp) (by simp) a m cap news (by rw[hA];exact an) e0 (by omega) (by simp only[maxLen]at qe;omega) (growslice_fits (by omega) (by rw[h7];exact wb))
     have iC:=World.ownsRow_made (e:=e) (size:=n) w.drew (news.toArray++Builtin.zeroCells z.cells (grownCap w (0+m) 0 e-(0+m))) (grownCap w (0+m) 0 e) (base:=0) (Nat.zero_le _) (grownCap_le_maxLen w (0+m) 0 e qe) (by
      have:=grownCap_ge w (0+m) 0 e
      simp only[Array.size_append,List.size_toArray,size_zeroCells,nk,an,←Nat.add_mul]
      congr 1
      omega)
     refine⟨_,_,cJ,?_,⟨rfl,rfl,rfl,by simp,fun k aj _=>Go.RowKit.Below.heap_alloc w.drew _ k aj⟩,fun k aj=>?_⟩
     ·have hO:=grownCap_ge w (0+m) 0 e
      refine⟨by simp[an],.inr ⟨w.heap.size,grownCap w (0+m) 0 e,_,rfl,by omega,heap_alloc_new w.drew _,hO,grownCap_le_maxLen w (0+m) 0 e qe,?_,?_⟩⟩
      ·simp only[Array.size_append,List.size_toArray,size_zeroCells,nk,an,←Nat.add_mul,List.length_nil,Nat.zero_add]at hO⊢
       congr 1
       omega
      ·simp only[Array.toList_append,List.nil_append,Nat.zero_add]
       rw[←an];exact List.take_left
     ·simp only[b0]at aj
      split at aj
      ·cases aj
      ·simp at aj;exact .inr (by omega)
   ·exact fin ⟨dk.1,.inr ⟨g,hL,cur,rfl,Nat.zero_le _,ag,hle,h4,ff,kv⟩⟩ (by simp[Value.ownBlock,b0,Nat.ne_of_gt wc])
def oa(P:Program)(t:TypeId):Option (Nat × Nat × Nat):=
 match P.underlying t with
 |some (.slice e)=>match P.info? e with
  |some i=>match i.zero with
   |some z=>if z.cells.size=i.size∧0<i.size then some (e,i.size,i.bytes)else none
   |none=>none
  |none=>none
 |_=>none
theorem zm{t e n bytes:Nat}(h:oa P t=some (e,n,bytes)): ∃i z,P.underlying t=some (.slice e)∧P.info? e=some i∧i.zero=some z∧i.size=n∧i.bytes=bytes∧z.cells.size=n∧0<n:=by
 unfold oa at h
 split at h
 ·rename_i aw hu
  split at h
  ·rename_i i hi
   split at h
   ·rename_i z bl
    split at h
    ·rename_i hc
     simp only[Option.some.injEq,Prod.mk.injEq]at h;obtain⟨rfl,rfl,rfl⟩:=h;exact⟨i,z,hu,hi,bl,rfl,rfl,hc.1,hc.2⟩
    ·cases h
   ·cases h
  ·cases h
 ·cases h
theorem DS{w:World}{ro:Nat→Prop}{n:Nat}{es:List (List ba)}(hn: ∀e∈es,e.length=n){f:Nat→Value}(hf: ∀j x,es.flatten[j]? =some x→c6 w ro x (f j)):
 ((List.range (es.length*n)).map f).length=es.length*n∧(∀u∈(List.range (es.length*n)).map f,u.oneCell'=true)∧∀j x,es.flatten[j]? =some x→c6 w ro x (((List.range (es.length*n)).map f).getD j undef):=by
 refine⟨by simp,fun u hu=>?_,fun j x ai=>?_⟩
 ·rw[List.mem_map]at hu
  obtain⟨j,ai,rfl⟩:=hu;rw[List.mem_range]at ai
  have an:=iW hn
  exact(hf j (es.flatten[j]'(by omega)) (by simp)).one
 ·have an:=iW hn
  have dv:=(List.getElem?_eq_some_iff.1 ai).1
  have:j<es.length*n:=by omega
  simpa[List.getD,this]using hf j x ai
theorem zn{w:World}{ro:Nat→Prop}{n:Nat}{es fs:List (List ba)}(hn: ∀e∈es,e.length=n){xs ys:List Value}(hx:xs.length=es.length*n)(aa: ∀j x,es.flatten[j]? =some x→c6 w ro x (xs.getD j undef))
 (af: ∀j x,fs.flatten[j]? =some x→c6 w ro x (ys.getD j undef)): ∀j x,(es++fs).flatten[j]? =some x→c6 w ro x ((xs++ys).getD j undef):=by
 intro j x ai
 rw[List.flatten_append]at ai
 have an:=iW hn
 by_cases h:j<es.flatten.length
 ·rw[List.getElem?_append_left h]at ai
  have:=aa j x ai
  rw[List.getD,List.getElem?_append_left (by omega)]
  exact this
 ·rw[List.getElem?_append_right (by omega)]at ai
  have:=af _ x ai
  rw[List.getD,List.getElem?_append_right (by omega),hx,←an]
  exact this
theorem Sq(x y:Operand)(t:TypeId)(ao:o.op= .call {callee:=.builtin .append,args:=#[x,y],argTypes:=#[t,t]}){e n bytes:Nat}(aB:oa P t=some (e,n,bytes))
 {id:Nat}(hx:aE G s x= .aL id){es:List (List ba)}(hid:aA s.heap id=some (.row false e n es))(ad:s.base≤id)(bz:id<s.next)
 {fs:List (List ba)}(ax:hz s.heap n (aE G s y)=some fs)(bA:es.length+fs.length≤maxLen∧(es.length+fs.length)*bytes≤140737488355328):
 dO P G o s (aJ.put ⟨dQ id s.cl,(id,.row false e n (es++fs))::c8 id s.heap,s.next,s.base⟩ o.dst (.aL id)):=by
 intro E a w ⟨β,ro,ae⟩ K Q hK
 obtain⟨i,z,hu,hi,bl,hA,h7,nk,hn⟩:=zm aB
 obtain⟨b,cap,hc,qg,rU,f,jb,rV⟩:=zl ae.heap (ae.eval y) ax
 have c7:=ae.heap.cL id _ hid
 cases c7 with
 |row _ _ _ xs dk bX e0=>
  have kC:a.eval x=β id:=by
   have h:=ae.eval x
   rw[hx]at h;generalize a.eval x=c at h
   cases h with
   |aL _ _ _ ak=>exact ak _ _ _ _ hid
  obtain⟨qh,rA,we⟩:=DS qg rV
  obtain⟨bo,w',cD,nn,cJ,a1⟩:=DR (P:=P) t o.type e hu hi bl hA h7 nk hn dk (b:=b) (m:=fs.length) (cap:=cap) qh (fun ad=>by rw[rU ad];rfl)
   (fun aW aI j u ai=>by
    have dv:=(List.getElem?_eq_some_iff.1 ai).1
    rw[qh]at dv
    have aa:=jb aW aI j dv
    simp[dv]at ai
    rw[aa,ai]) rA bA.1 bA.2
  unfold Oper.wp;simp only[execOp,ao,resolve,invoke,builtin,Sem.run_bind,Sem.run_pure,Result.andThen_ok,List.map_toArray,List.map_cons,List.map_nil,kC,hc,cD]
  have jI: ∀k,k<w.heap.size→b0 (β id)≠some k→w'.heap[k]? =w.heap[k]? :=fun k aj bX=>cJ.block k aj (fun e=>bX e.symm)
  have bZ: ∀k,ro k→w'.heap[k]? =w.heap[k]? :=fun k aj=>jI k (ae.heap.lt k aj) fun a1=>ae.heap.fe k aj ⟨id,_,hid,rfl,a1⟩
  refine hK _ _ ⟨gL β id bo,ro,cP.put (ae.renew (w':=w') id ad bz hid (.row false e n (es++fs)) bo cJ.os cJ.tape cJ.output cJ.size jI a1 rfl ?_) o.dst _ _ ?_⟩
  ·refine .row e n _ _ (by rw[dY,List.length_append];exact nn) (fun aw ky=>?_) (fun j x ai=>?_)
   ·rw[List.mem_append]at ky
    rcases ky with h|h
    ·exact bX _ h
    ·exact qg _ h
   ·exact(zn bX dk.1 e0 we j x ai).keep bZ fun _ h=>h
  ·exact .aL _ _ bz fun z bn cy dX _=>(dY _ _ _).symm
theorem Sr(x y:Operand)(t:TypeId)(ao:o.op= .call {callee:=.builtin .append,args:=#[x,y],argTypes:=#[t,t]}){e n bytes:Nat}(aB:oa P t=some (e,n,bytes))
 (hx:aE G s x= .au (.v (.slice none 0 0)))(ad:s.base≤s.next)
 {fs:List (List ba)}(ax:hz s.heap n (aE G s y)=some fs)(bA:fs.length≤maxLen∧fs.length*bytes≤140737488355328):
 dO P G o s ({s with heap:=(s.next,.row false e n fs)::s.heap,next:=s.next+1}.put o.dst (.aL s.next)):=by
 intro E a w ⟨β,ro,ae⟩ K Q hK
 obtain⟨i,z,hu,hi,bl,hA,h7,nk,hn⟩:=zm aB
 obtain⟨b,cap,hc,qg,rU,f,jb,rV⟩:=zl ae.heap (ae.eval y) ax
 obtain⟨qh,rA,we⟩:=DS qg rV
 obtain⟨bo,w',cD,nn,cJ,a1⟩:=DR (P:=P) (w:=w) t o.type e hu hi bl hA h7 nk hn (v:=.slice none 0 0) (len:=0) (xs:=[]) ⟨by simp,.inl ⟨⟨none,rfl,fun _ h=>(by cases h)⟩,rfl⟩⟩ (b:=b) (m:=fs.length) (cap:=cap) qh (fun ad=>by rw[rU ad];rfl)
  (fun aW aI j u ai=>by
   have dv:=(List.getElem?_eq_some_iff.1 ai).1
   rw[qh]at dv
   have aa:=jb aW aI j dv
   simp[dv]at ai
   rw[aa,ai]) rA (by omega) (by rw[Nat.zero_add];exact bA.2)
 unfold Oper.wp
 simp only[execOp,ao,resolve,invoke,builtin,Sem.run_bind,Sem.run_pure,Result.andThen_ok,List.map_toArray,List.map_cons,List.map_nil,ae.dU hx,hc,cD]
 have j6:aA s.heap s.next=none:=by
  cases ag:aA s.heap s.next with
  |none=>rfl
  |some p=>have:=ae.trans.new _ _ ag;omega
 have hw: ∀b,b<w.heap.size→w'.heap[b]? =w.heap[b]? :=fun b ad=>cJ.block b ad (by simp[b0])
 have bZ: ∀b,ro b→w'.heap[b]? =w.heap[b]? :=fun b ad=>hw b (ae.heap.lt b ad)
 refine hK _ _ ⟨gL β s.next bo,ro,cP.put (ae.new (w':=w') s.next j6 ad (Nat.le_refl _) (.row false e n fs) bo cJ.os cJ.tape cJ.output cJ.size hw (fun b ad=>?_) rfl ?_) o.dst _ _ ?_⟩
 ·rcases a1 b ad with h|h
  ·simp[b0]at h
  ·exact h
 ·refine .row e n _ _ (by rw[dY];simpa using nn) qg (fun j x ai=>(we j x ai).keep bZ fun _ h=>h)
 ·exact .aL _ _ (Nat.lt_succ_self _) fun z bn cy dX _=>(dY _ _ _).symm
theorem J3{cap len:Nat}{isS:Bool}{lo hi mx:Option Value}{l h m:Nat}(hm:(mx=none∧m=cap)∨∃k,mx=some (.int k (m:Int)))(aV:(hi=none∧mx=none∧h=len)∨∃k,hi=some (.int k (h:Int)))
 (an:(lo=none∧l=0)∨∃k,lo=some (.int k (l:Int)))(aa:l≤h)(af:h≤m)(ar:m≤cap)(w:World):(Instr.sliceBounds isS len cap lo hi mx).run P w= .ok (l,h,m) w:=by
 rcases hm with⟨rfl,rfl⟩|⟨Yq,rfl⟩<;>rcases aV with⟨rfl,qi,rfl⟩|⟨Yr,rfl⟩<;>rcases an with⟨rfl,rfl⟩|⟨J4,rfl⟩
 all_goals first
  |(cases qi;done)
  |simp[Instr.sliceBounds,Instr.sliceBound,asIntOf,aa,af,ar]
theorem zo (t : TypeId) (x : Operand) (lo hi : Option Operand) (ao : o.op = .slice t x lo hi none) (aB : P.underlying t = some .string) {b : ByteArray} (hx : aE G s x = .au (.v (.string b))) {l h : Nat}
    (an : (lo = none ∧ l = 0) ∨ ∃ y k, lo = some y ∧ aE G s y = .au (.v (.int k (l : Int)))) (aV : (hi = none ∧ h = b.size) ∨ ∃ y k, hi = some y ∧ aE G s y = .au (.v (.int k (h : Int)))) (aa : l ≤ h) (af : h ≤ b.size) :
    cE P G o s (.au (.v (.string (b.extract l h)))) :=
  fun _ a w β ro ae => by
    have ad := J3 (P := P) (cap := b.size) (len := b.size) (isS := false) (lo := lo.map a.eval) (hi := hi.map a.eval) (mx := none) (l := l) (h := h) (m := b.size) (.inl ⟨rfl, rfl⟩)
      (by rcases aV with ⟨rfl, rfl⟩ | ⟨y, k, rfl, ax⟩
          · exact .inl ⟨rfl, rfl, rfl⟩
          · exact .inr ⟨k, by simp [ae.dU ax]⟩)
      (by rcases an with ⟨rfl, rfl⟩ | ⟨y, k, rfl, ax⟩
          · exact .inl ⟨rfl, rfl⟩
          · exact .inr ⟨k, by simp [ae.dU ax]⟩) aa af (Nat.le_refl _) w
    exact ⟨_, by simp [execOp, ao, ae.dU hx, Instr.sliceAt, run_underlying aB, Instr.slice, ad], .fw rfl⟩
theorem J5(src dst:TypeId)(x:Operand)(ao:o.op= .convert src dst x)(ah:(P.underlying src).isSome=true){bj:IntKind}(hd:P.underlying dst=some (.int bj)){k:IntKind}{n:Int}(hx:aE G s x= .au (.v (.int k n))):
 cE P G o s (.au (.v (.int bj (bj.wrap n)))):=
 fun _ a w β ro ae=>by
  cases hu:P.underlying src with
  |none=>simp[hu]at ah
  |some d=>exact⟨_,by simp[execOp,ao,ae.dU hx,convert,run_underlying hu,run_underlying hd,Conv.intToInt],.fw rfl⟩
theorem J6(x y:Operand)(ts:Array TypeId)(ao:o.op= .call {callee:=.builtin .min,args:=#[x,y],argTypes:=ts}){k:IntKind}{m n:Int}(hx:aE G s x= .au (.v (.int k m)))(ax:aE G s y= .au (.v (.int k n))):
 cE P G o s (.au (.v (.int k (if n<m then n else m)))):=
 fun _ a w β ro ae=>⟨.int k (if n<m then n else m),by simp[execOp,ao,resolve,invoke,builtin,ae.dU hx,ae.dU ax,run_min_int2],.fw rfl⟩
theorem J7(x y:Operand)(ts:Array TypeId)(ao:o.op= .call {callee:=.builtin .max,args:=#[x,y],argTypes:=ts}){k:IntKind}{m n:Int}(hx:aE G s x= .au (.v (.int k m)))(ax:aE G s y= .au (.v (.int k n))):
 cE P G o s (.au (.v (.int k (if n>m then n else m)))):=
 fun _ a w β ro ae=>⟨.int k (if n>m then n else m),by simp[execOp,ao,resolve,invoke,builtin,ae.dU hx,ae.dU ax,run_max_int2],.fw rfl⟩
theorem Ss(b4 ty:TypeId)(x y:Operand)(ao:o.op= .binOp .add b4 x y ty){u v:ByteArray}(hx:aE G s x= .au (.v (.string u)))(ax:aE G s y= .au (.v (.string v)))(bA:u.size+v.size≤9223372036854775807):
 cE P G o s (.au (.v (.string (u++v)))):=
 nd .add b4 ty x y ao hx ax (by
  simp only[iY]
  rw[if_neg (by simp only[IntKind.max_i64];omega)])
end
end Go.aG
namespace Go.aG
open Go
def ob(s:aJ)(o:Oper)(v:az):Option aJ:=some (s.put o.dst v)
def isStr(P:Program)(t:TypeId):Bool:=
 match P.underlying t with
 |some .string=>true
 |_=>false
def zp(P:Program)(t:TypeId):Bool:=
 match P.underlying t with
 |some .bool=>true
 |_=>false
theorem rW{P:Program}{t:TypeId}(h:isStr P t=true):P.underlying t=some .string:=by
 unfold isStr at h
 split at h
 ·assumption
 ·cases h
theorem zq{P:Program}{t:TypeId}(h:zp P t=true):P.underlying t=some .bool:=by
 unfold zp at h
 split at h
 ·assumption
 ·cases h
def DT(P:Program)(G:aY)(b:Builtin)(xs:List Operand)(ts:List TypeId)(s:aJ):Option az:=
 match b,xs,ts with
 | .len,[x],[t]=>match kB s.heap (aE G s x)with
  |some m=>if isSlice P t then some (.au (.v (.int .i64 (m:Int))))else none
  |none=>match aE G s x with
   | .au (.v (.string b))=>if isStr P t then some (.au (.v (.int .i64 (b.size:Int))))else none
   |_=>match zi P t with
    |some n=>some (.au (.v (.int .i64 (n:Int))))
    |none=>none
 | .min,[x,y],_=>match aE G s x,aE G s y with
  | .au (.v (.int k m)),.au (.v (.int bj n))=>if k=bj then some (.au (.v (.int k (if n<m then n else m))))else none
  |_,_=>none
 | .max,[x,y],_=>match aE G s x,aE G s y with
  | .au (.v (.int k m)),.au (.v (.int bj n))=>if k=bj then some (.au (.v (.int k (if n>m then n else m))))else none
  |_,_=>none
 |_,_,_=>none
def pc(P:Program)(G:aY)(o:Oper)(s:aJ):Option az:=
 match o.op with
 | .move x=>some (aE G s x)
 | .assign x=>some (aE G s x)
 | .load t x=>match eZ s.heap (aE G s x)with
  |some cs=>match kZ P t with
   |some n=>if n≤cs.length∧0<n then some (.agg (cs.take n))else none
   |none=>if scalar P t then match cs with
    |y::_=>some y
    |[]=>none
    else none
  |none=>none
 | .fieldAddr t x f=>match qb P t f,iX s.heap (aE G s x)with
  |some k,true=>some (oW k (aE G s x))
  |_,_=>none
 | .nilCheck x=>match iX s.heap (aE G s x)with
  |true=>some (aE G s x)
  |false=>none
 | .field t x f=>match aE G s x,tk P t f with
  | .agg cs,some (off,none)=>match cs[off]? with
   |some v=>some v
   |none=>none
  | .agg cs,some (off,some n)=>if off+n≤cs.length then some (.agg ((cs.drop off).take n))else none
  |_,_=>none
 | .indexAddr t x i=>match aE G s i with
  | .au (.v (.int _ (.ofNat j)))=>match iZ P t with
   |some n=>match lI s.heap n j (aE G s x)with
    |some p=>some p
    |none=>none
   |none=>match rS P t,eZ s.heap (aE G s x)with
    |some (len,n),some _=>if j<len then match h5 (j*n) (aE G s x)with
     |some p=>some p
     |none=>none
     else none
    |_,_=>none
  |_=>none
 | .index t x i=>match aE G s i,aE G s x with
  | .au (.v (.int _ (.ofNat j))),.au (.v (.string b))=>if isStr P t then match b.data.toList[j]? with
   |some u=>some (.au (.v (.int .u8 (u.toNat:Int))))
   |none=>none
   else none
  |_,_=>none
 | .binOp op b4 x y _=>match aE G s x,aE G s y with
  | .au (.v (.bool u)),.au (.v (.bool v))=>if zp P b4 then match op with
   | .eql=>some (.au (.v (.bool (u==v))))
   | .neq=>some (.au (.v (.bool (!(u==v)))))
   |_=>none
   else none
  | .au (.v u),.au (.v v)=>match iY op u v with
   |some c=>some (.au (.v c))
   |none=>none
  | .agg cs,.agg ds=>match lC P b4,gD cs,gD ds with
   |some fs,some xs,some ys=>match vQ P 0 fs xs ys with
    |some b=>match op with
     | .eql=>some (.au (.v (.bool b)))
     | .neq=>some (.au (.v (.bool (!b))))
     |_=>none
    |none=>none
   |_,_,_=>none
  |_,_=>none
 | .unOp op _ x=>match op,aE G s x with
  | .not,.au (.v (.bool b))=>some (.au (.v (.bool (!b))))
  | .neg,.au (.v (.int k n))=>some (.au (.v (.int k (k.wrap (0-n)))))
  |_,_=>none
 | .pick c x y=>match aE G s c with
  | .au (.v (.bool true))=>some (aE G s x)
  | .au (.v (.bool false))=>some (aE G s y)
  |_=>none
 | .extract x i=>match aE G s x with
  | .tuple cs=>match cs[i]? with
   |some v=>some v
   |none=>none
  |_=>none
 | .build t parts=>match places P t,zeroCells P t with
  |some pl,some zs=>if zs.all Value.oneCell'∧(parts.toList.map fun p=>(p.1,aE G s p.2)).all (fun p=>(ch p.2).all (dT s.heap))then
   match ja pl (zs.map fun z=>.au (.v z)) (parts.toList.map fun p=>(p.1,aE G s p.2))with
   |some ds=>some (.agg ds)
   |none=>none
   else none
  |_,_=>none
 | .call c=>match c.callee with
  | .builtin b=>DT P G b c.args.toList c.argTypes.toList s
  |_=>none
 | .convert src dst x=>match aE G s x,P.underlying dst with
  | .au (.v (.int _ n)),some (.int bj)=>if(P.underlying src).isSome then some (.au (.v (.int bj (bj.wrap n))))else none
  |_,_=>none
 |_=>none
def DU(P:Program)(G:aY)(o:Oper)(s:aJ):Option aJ:=
 match pc P G o s with
 |some v=>ob s o v
 |none=>match o.op with
  | .store t p x=>match aE G s p with
   | .ptr id off=>match aA s.heap id with
    |some (.box bt cs)=>if(ch (aE G s x)).all (dT s.heap)∧(P.info? t).map (·.size)=some (ch (aE G s x)).length∧off+(ch (aE G s x)).length≤cs.length
     then ob {s with heap:=eG s.heap id (.box bt (dH cs off (ch (aE G s x))))} o .top else none
    |_=>none
   | .cn id i off=>match aA s.heap id with
    |some (.row false bt n es)=>match es[i]?,hN (ch (aE G s x))with
     |some e,some vs=>if(P.info? t).map (·.size)=some vs.length∧off+vs.length≤n then ob {s with heap:=eG s.heap id (.row false bt n (es.set i (dH e off vs)))} o .top else none
     |_,_=>none
    |_=>none
   |_=>none
  | .alloc t=>match zeroCells P t with
   |some zs=>if zs.all Value.oneCell'∧s.base≤s.next then ob {s with heap:=(s.next,.box t (zs.map fun z=>.au (.v z)))::s.heap,next:=s.next+1} o (.ptr s.next 0)else none
   |none=>none
  | .box t x=>if(ch (aE G s x)).all (dT s.heap)∧s.base≤s.next then ob {s with heap:=(s.next,.box t (ch (aE G s x)))::s.heap,next:=s.next+1} o (.ptr s.next 0)else none
  |_=>none
section
variable {P:Program} {G:aY} {o:Oper} {s bd:aJ} {v:az}
theorem St{b:Builtin}{args:Array Operand}{ts:Array TypeId}(ao:o.op= .call {callee:=.builtin b,args,argTypes:=ts})(h:DT P G b args.toList ts.toList s=some v):cE P G o s v:=by
 unfold DT at h
 split at h
 ·rename_i x t aI Su
  have aC:args= #[x]:=by apply Array.ext';simpa using aI
  have a6:ts= #[t]:=by apply Array.ext';simpa using Su
  subst aC a6
  split at h
  ·rename_i m hm
   split at h
   ·rename_i aB
    simp only[Option.some.injEq]at h;subst h;exact DI x t ao aB hm
   ·cases h
  ·split at h
   ·rename_i b hx
    split at h
    ·rename_i aB
     simp only[Option.some.injEq]at h;subst h;exact DJ x t ao (rW aB) hx
    ·cases h
   ·split at h
    ·rename_i n hn
     simp only[Option.some.injEq]at h;subst h;exact JP x t ao hn
    ·cases h
 ·rename_i x y aI
  have aC:args= #[x,y]:=by apply Array.ext';simpa using aI
  subst aC
  split at h
  ·rename_i k m bj n hx ax
   split at h
   ·rename_i aj
    subst aj;simp only[Option.some.injEq]at h;subst h;exact J6 x y ts ao hx ax
   ·cases h
  ·cases h
 ·rename_i x y aI
  have aC:args= #[x,y]:=by apply Array.ext';simpa using aI
  subst aC
  split at h
  ·rename_i k m bj n hx ax
   split at h
   ·rename_i aj
    subst aj;simp only[Option.some.injEq]at h;subst h;exact J7 x y ts ao hx ax
   ·cases h
  ·cases h
 ·cases h
theorem DV(h:pc P G o s=some v):cE P G o s v:=by
 unfold pc at h
 split at h
 ·rename_i x ao
  simp only[Option.some.injEq]at h;subst h;exact I9 x ao
 ·rename_i x ao
  simp only[Option.some.injEq]at h;subst h;exact Ja x ao
 ·rename_i t x ao
  split at h
  ·rename_i cs hc
   split at h
   ·rename_i n hn
    split at h
    ·rename_i an
     simp only[Option.some.injEq]at h;subst h;exact Jb t x ao hn hc an.1 an.2
    ·cases h
   ·split at h
    ·rename_i ah
     split at h
     ·simp only[Option.some.injEq]at h;subst h;exact Dm t x ao ah hc
     ·cases h
    ·cases h
  ·cases h
 ·rename_i t x f ao
  split at h
  ·rename_i k aj hc
   simp only[Option.some.injEq]at h;subst h;exact Je t x f ao aj hc
  ·cases h
 ·rename_i x ao
  split at h
  ·rename_i hc
   simp only[Option.some.injEq]at h;subst h;exact Jf x ao hc
  ·cases h
 ·rename_i t x f ao
  split at h
  ·rename_i cs off hx aB
   split at h
   ·rename_i v av
    simp only[Option.some.injEq]at h;subst h;exact JT t x f ao aB hx av
   ·cases h
  ·rename_i cs off n hx aB
   split at h
   ·rename_i hn
    simp only[Option.some.injEq]at h;subst h;exact JU t x f ao aB hx hn
   ·cases h
  ·cases h
 ·rename_i t x i ao
  split at h
  ·rename_i k j hi
   split at h
   ·rename_i n hn
    split at h
    ·rename_i p ak
     simp only[Option.some.injEq]at h;subst h;exact JR t x i ao hn hi ak
    ·cases h
   ·split at h
    ·rename_i len n cs aB ff
     split at h
     ·rename_i ai
      split at h
      ·rename_i p ak
       simp only[Option.some.injEq]at h;subst h;exact DK t x i ao aB hi ai ff ak
      ·cases h
     ·cases h
    ·cases h
  ·cases h
 ·rename_i t x i ao
  split at h
  ·rename_i k j b hi hx
   split at h
   ·rename_i aB
    split at h
    ·rename_i u hu
     simp only[Option.some.injEq]at h;subst h;exact JS t x i ao (rW aB) hi hx hu
    ·cases h
   ·cases h
  ·cases h
 ·rename_i op b4 x y ty ao
  split at h
  ·rename_i u v hx ax
   split at h
   ·rename_i aB
    split at h
    ·simp only[Option.some.injEq]at h;subst h;exact Jv b4 ty x y ao (zq aB) hx ax
    ·simp only[Option.some.injEq]at h;subst h;exact Jw b4 ty x y ao (zq aB) hx ax
    ·cases h
   ·cases h
  ·rename_i u v _ hx ax
   split at h
   ·rename_i c hc
    simp only[Option.some.injEq]at h;subst h;exact nd _ b4 ty x y ao hx ax hc
   ·cases h
  ·rename_i cs ds hx ax
   split at h
   ·rename_i fs xs ys hf lD k2
    split at h
    ·rename_i b ad
     split at h
     ·simp only[Option.some.injEq]at h;subst h;exact JC b4 ty x y ao hf hx ax lD k2 ad
     ·simp only[Option.some.injEq]at h;subst h;exact JD b4 ty x y ao hf hx ax lD k2 ad
     ·cases h
    ·cases h
   ·cases h
  ·cases h
 ·rename_i op t x ao
  split at h
  ·rename_i b hx
   simp only[Option.some.injEq]at h;subst h;exact JE t x ao hx
  ·rename_i k n hx
   simp only[Option.some.injEq]at h;subst h;exact JF t x ao hx
  ·cases h
 ·rename_i c x y ao
  split at h
  ·rename_i hc
   simp only[Option.some.injEq]at h;subst h;exact vS c x y ao hc rfl
  ·rename_i hc
   simp only[Option.some.injEq]at h;subst h;exact vS c x y ao hc rfl
  ·cases h
 ·rename_i x i ao
  split at h
  ·rename_i cs hx
   split at h
   ·rename_i v av
    simp only[Option.some.injEq]at h;subst h;exact JG x i ao hx av
   ·cases h
  ·cases h
 ·rename_i t parts ao
  split at h
  ·rename_i pl zs ak bl
   split at h
   ·rename_i hc
    split at h
    ·rename_i ds hf
     simp only[Option.some.injEq]at h;subst h;exact JY t parts ao ak bl hc.1 rfl hc.2 hf
    ·cases h
   ·cases h
  ·cases h
 ·rename_i c ao
  split at h
  ·rename_i b ad
   obtain⟨callee,args,ts⟩:=c;simp only at ad h;subst ad;exact St ao h
  ·cases h
 ·rename_i src dst x ao
  split at h
  ·rename_i k n bj hx hd
   split at h
   ·rename_i ah
    simp only[Option.some.injEq]at h;subst h;exact J5 src dst x ao ah hd hx
   ·cases h
  ·cases h
 ·cases h
theorem Sv(h:DU P G o s=some bd):dO P G o s bd:=by
 unfold DU at h
 split at h
 ·rename_i v av
  simp only[ob,Option.some.injEq]at h;subst h;exact(DV av).step
 ·split at h
  ·rename_i t p x ao
   split at h
   ·rename_i id off ak
    split at h
    ·rename_i bt cs ag
     split at h
     ·rename_i hc
      simp only[ob,Option.some.injEq]at h;subst h;exact Jo t p x ao ak ag rfl hc.1 hc.2.1 hc.2.2
     ·cases h
    ·cases h
   ·rename_i id i off ak
    split at h
    ·rename_i bt n es ag
     split at h
     ·rename_i e vs he av
      split at h
      ·rename_i hc
       simp only[ob,Option.some.injEq]at h;subst h;exact Jq t p x ao ak ag he av hc.1 hc.2
      ·cases h
     ·cases h
    ·cases h
   ·cases h
  ·rename_i t ao
   split at h
   ·rename_i zs bl
    split at h
    ·rename_i hc
     simp only[ob,Option.some.injEq]at h;subst h;exact Jm t ao hc.2 bl hc.1
    ·cases h
   ·cases h
  ·rename_i t x ao
   split at h
   ·rename_i hc
    simp only[ob,Option.some.injEq]at h;subst h;exact Jk t x ao hc.2 hc.1
   ·cases h
  ·cases h
def dD(ops:Array Oper)(s:aJ)(o:Oper):Option Bool:=
 match o.guard with
 |none=>some true
 |some (j,b)=>match k3 ops j with
  |some d=>match s.cl[d]? with
   |some (.au (.v (.bool c)))=>some (match b,c with
    |true,true=>true
    |false,false=>true
    |_,_=>false)
   |some (.tuple _)=>some false
   |_=>none
  |none=>none
def tm(P:Program)(G:aY)(ops:Array Oper):Nat→List Oper→aJ→Option aJ
 |0,_,s=>some s
 |n+1,o::r,s=>match dD ops s o with
  |some true=>match DU P G o s with
   |some bd=>tm P G ops n r bd
   |none=>none
  |some false=>tm P G ops n r (s.put o.dst (.tuple []))
  |none=>none
 |_+1,[],_=>none
variable {Q:Exit→aJ→Prop}
theorem b7.step{ops:Array Oper}{rest:List Oper}(ag:dD ops s o=some true)(h:dO P G o s bd)(k:b7 P G ops Q rest bd):b7 P G ops Q (o::rest) s:=by
 unfold dD at ag
 split at ag
 ·rename_i hn
  exact b7.cons hn h k
 ·rename_i j b hn
  split at ag
  ·rename_i d hd
   split at ag
   ·rename_i c ah
    simp only[Option.some.injEq]at ag
    have wg:b=c:=by cases b<;>cases c<;>simp_all
    subst wg;exact b7.guarded hn hd ah h k
   ·cases ag
   ·cases ag
  ·cases ag
theorem b7.pass{ops:Array Oper}{rest:List Oper}(ag:dD ops s o=some false)(k:b7 P G ops Q rest (s.put o.dst (.tuple []))):b7 P G ops Q (o::rest) s:=by
 unfold dD at ag
 split at ag
 ·cases ag
 ·rename_i j b hn
  split at ag
  ·rename_i d hd
   split at ag
   ·rename_i c ah
    simp only[Option.some.injEq]at ag
    have wg:c= !b:=by cases b<;>cases c<;>simp_all
    subst wg;exact b7.R3 hn hd ah k
   ·rename_i cs ah
    exact b7.R4 hn hd ah k
   ·cases ag
  ·cases ag
theorem b7.run{ops:Array Oper}: ∀(n:Nat) {l:List Oper} {s bd:aJ},tm P G ops n l s=some bd→b7 P G ops Q (l.drop n) bd→b7 P G ops Q l s
 |0,l,s,bd,h,k=>by
  simp[tm]at h;subst h;exact k
 |n+1,[],s,bd,h,k=>by simp[tm]at h
 |n+1,o::r,s,bd,h,k=>by
  simp only[tm]at h
  split at h
  ·rename_i ag
   split at h
   ·rename_i s1 aa
    exact b7.step ag (Sv aa) (b7.run n h k)
   ·cases h
  ·rename_i ag
   exact b7.pass ag (b7.run n h k)
  ·cases h
end
end Go.aG
namespace Go.aG
open Go
abbrev hP(n:Int):az:=.au (.v (.int .i64 n))
abbrev l4(b:Bool):az:=.au (.v (.bool b))
abbrev vs(s:ByteArray):az:=.au (.v (.string s))
abbrev Sw(l:List ba):List az:=l.map .au
def lK:Nat→Nat→List (Nat × az)→List az
 |_,0,_=>[]
 |i,k+1,[]=>.top::lK (i+1) k []
 |i,k+1,(j,v)::r=>if i=j then v::lK (i+1) k r else .top::lK (i+1) k ((j,v)::r)
theorem eM(n:Int)(aa: -9223372036854775808≤n)(af:n≤9223372036854775807):IntKind.i64.wrap n=n:=by
 rw[IntKind.wrap_i64];omega
def k8(σ:bp):bp→bp
 |[]=>[]
 |(k,.box t cs)::r=>(k,.box t (k6 σ cs))::k8 σ r
 |(k,.row z t n es)::r=>(k,.row z t n es)::k8 σ r
 |(k,.bO br)::r=>(k,.bO br)::k8 σ r
def ka(σ:bp):dS→dS
 | .box t cs=>.box t (k6 σ cs)
 | .row z t n es=>.row z t n es
 | .bO br=>.bO br
theorem pd(σ:bp): ∀(h:bp) (k:Nat),aA (k8 σ h) k=(aA h k).map (ka σ)
 |[],k=>by simp[k8,aA]
 |(j,.box t cs)::r,k=>by
  by_cases ai:j=k
  ·simp[k8,aA,ai,ka]
  ·simp[k8,aA,ai,pd σ r k]
 |(j,.row z t n es)::r,k=>by
  by_cases ai:j=k
  ·simp[k8,aA,ai,ka]
  ·simp[k8,aA,ai,pd σ r k]
 |(j,.bO br)::r,k=>by
  by_cases ai:j=k
  ·simp[k8,aA,ai,ka]
  ·simp[k8,aA,ai,pd σ r k]
theorem jG.DW{w:World}{ro:Nat→Prop}{t:TypeId}{n:Nat}{v:Value}{es:List (List ba)}{xs:List Value}(h:jG w t n v es.length xs)(hn: ∀e∈es,e.length=n)(hc: ∀j x,es.flatten[j]? =some x→c6 w ro x (xs.getD j undef))
 (bZ: ∀b,b0 v=some b→ro b):c6 w ro (.aL n es) v:=by
 rcases h.2 with⟨⟨b,av,_⟩,bl⟩|⟨g,cap,cur,av,ak,ag,hle,h4,ff,kv⟩
 ·subst av
  have:es=[]:=List.eq_nil_of_length_eq_zero bl
  subst this;exact .aL n [] b 0 (fun _=>undef) (by simp) (Nat.zero_le _) (by simp) (by simp) (by simp)
 ·subst av
  refine .aL n es _ cap (fun j=>xs.getD j undef) hle h4 hn (fun _=>⟨⟨g,0,none⟩,rfl,fun j ai=>⟨bZ g (by simp[b0,Nat.ne_of_gt ak]),?_⟩⟩) hc
  rw[addLit,Nat.zero_add,cell_of_row w g j cur t (0,0) ag]
  have hx:xs[j]? =cur[j]? :=by rw[←kv,List.getElem?_take,if_pos ai];simp
  have iD:j<xs.length:=by rw[h.1];exact ai
  rw[←hx];simp[List.getD,List.getElem?_eq_getElem iD]
def wh(s:aJ)(id:Nat):aJ:=
 match aA s.heap id with
 |some (.row false t n es)=>⟨k6 [(id,.row true t n es)] s.cl,k8 [(id,.row true t n es)] (fF s.heap id),s.next,s.base⟩
 |_=>s
theorem cw.wh(s:aJ)(id:Nat):cw s (wh s id):=by
 unfold Go.aG.wh
 split
 ·rename_i t n es hid
  intro E G a w ⟨β,ro,h⟩
  have c7:=h.heap.cL id _ hid
  cases c7 with
  |row _ _ _ xs dk hn hc=>

   have Sx:c6 w (fun b=>ro b∨b0 (β id)=some b) (.aL n es) (β id):=dk.DW hn (fun j x ai=>(hc j x ai).keep (fun _ _=>rfl) fun _ h=>.inl h) fun b ad=>.inr ad
   have fP: ∀k o,aA (fF s.heap id) k=some o→aA s.heap k=some o∧k≠id:=by
    intro k o aj;rw[y2]at aj
    split at aj
    ·cases aj
    ·rename_i bX
     exact⟨aj,fun e=>bX e.symm⟩
   have view: ∀x c,bk w ro s.heap β s.next x c→bk w (fun b=>ro b∨b0 (β id)=some b) (k8 [(id,.row true t n es)] (fF s.heap id)) β s.next (lF [(id,.row true t n es)] x) c:=by
    intro x c hx
    induction hx with
    |au x c hx=>exact .au x c (hx.keep (fun _ _=>rfl) fun _ h=>.inl h)
    |agg cs c aa _ aO=>
     refine .agg _ c (by rw[ng];exact aa) fun j x ai=>?_
     obtain⟨y,ax,rfl⟩:=nh _ ai;exact aO j y ax
    |tuple cs c aa _ aO=>
     refine .tuple _ c (by rw[ng];exact aa) fun j x ai=>?_
     obtain⟨y,ax,rfl⟩:=nh _ ai;exact aO j y ax
    |ptr k off c an ak=>
     refine .ptr k off c an fun bn cs' ag=>?_
     rw[pd]at ag
     cases aj:aA (fF s.heap id) k with
     |none=>simp[aj]at ag
     |some p=>
      cases p with
      |box t2 wi=>exact ak t2 wi (fP k _ aj).1
      |row=>simp[aj,ka]at ag
      |bO=>simp[aj,ka]at ag
    |dh k off c an ak=>
     refine .dh k off c an fun bn cs' ag=>?_
     rw[pd]at ag
     cases aj:aA (fF s.heap id) k with
     |none=>simp[aj]at ag
     |some p=>
      cases p with
      |box t2 wi=>exact ak t2 wi (fP k _ aj).1
      |row=>simp[aj,ka]at ag
      |bO=>simp[aj,ka]at ag
    |cn k i off c an ak=>
     refine .cn k i off c an fun ht bn cy dX ag=>?_
     rw[pd]at ag
     cases aj:aA (fF s.heap id) k with
     |none=>simp[aj]at ag
     |some p=>
      cases p with
      |box t2 wi=>simp[aj,ka]at ag
      |bO=>simp[aj,ka]at ag
      |row z2 t2 ey Sy=>
       simp only[aj,ka,Option.map_some,Option.some.injEq,dS.row.injEq]at ag;obtain⟨rfl,rfl,rfl,rfl⟩:=ag;exact ak _ _ _ _ (fP k _ aj).1
    |aL k c an ak=>
     simp only[lF,aA]
     by_cases aj:id=k
     ·subst aj
      simp only[if_true];rw[ak _ _ _ _ hid];exact .au _ _ Sx
     ·simp only[if_neg aj]
      refine .aL k c an fun ht bn cy dX ag=>?_
      rw[pd]at ag
      cases dZ:aA (fF s.heap id) k with
      |none=>simp[dZ]at ag
      |some p=>
       cases p with
       |box t2 wi=>simp[dZ,ka]at ag
       |bO=>simp[dZ,ka]at ag
       |row z2 t2 ey Sy=>exact ak _ _ _ _ (fP k _ dZ).1
    |fn f p q c d aa af _ _ gp gq=>
     refine .fn f _ _ c d (by rw[ng];exact aa) (by rw[ng];exact af) (fun j x ai=>?_) (fun j x ai=>?_)
     ·obtain⟨y,ax,rfl⟩:=nh _ ai
      exact gp j y ax
     ·obtain⟨y,ax,rfl⟩:=nh _ ai
      exact gq j y ax
    |ref k c an ak=>
     refine .ref k c an fun br ag=>?_
     rw[pd]at ag
     cases aj:aA (fF s.heap id) k with
     |none=>simp[aj]at ag
     |some p=>
      cases p with
      |box=>simp[aj,ka]at ag
      |row=>simp[aj,ka]at ag
      |bO ku=>exact ak ku (fP k _ aj).1
    |top c=>exact .top c
   have back: ∀k o,aA (k8 [(id,.row true t n es)] (fF s.heap id)) k=some o→∃p,aA s.heap k=some p∧k≠id∧p.live=o.live∧o=ka [(id,.row true t n es)] p:=by
    intro k o ag;rw[pd]at ag
    cases aj:aA (fF s.heap id) k with
    |none=>simp[aj]at ag
    |some p=>
     obtain⟨aa,af⟩:=fP k p aj;refine⟨p,aa,af,?_,?_⟩
     ·simp[aj]at ag
      subst ag
      cases p<;>rfl
     ·simp[aj]at ag
      exact ag.symm
   refine⟨β,fun b=>ro b∨b0 (β id)=some b,h.defers,by simpa[ng]using h.size,fun i x hx=>?_,⟨fun k o ag=>?_,fun k bj o b6 b ag dr an qj ad gK=>?_,fun b ad=>?_,fun b ad=>?_⟩,
    h.ha.keep (fun _ _=>rfl) fun _ h=>.inl h,?_,h.base⟩
   ·obtain⟨y,ax,rfl⟩:=nh _ hx
    exact view _ _ (h.slot i y ax)
   ·obtain⟨p,aa,af,ar,rfl⟩:=back k o ag
    have ao:=h.heap.cL k p aa
    cases ao with
    |box bn cs' b arr aC a6 ck eT=>
     refine .box bn _ b arr aC a6 (by rw[ng];exact ck) fun j x ai=>?_
     obtain⟨y,ax,rfl⟩:=nh _ ai;exact view _ _ (eT j y ax)
    |row bn cy dX Dv aC a6 ck=>exact .row bn cy dX Dv aC a6 fun j x ai=>(ck j x ai).keep (fun _ _=>rfl) fun _ h=>.inl h
    |fG bn cy dX aC=>exact .fG bn cy dX (aC.keep (fun _ _=>rfl) fun _ h=>.inl h)
    |bO br b o aC a6 ck=>exact .bO br b o aC a6 (br.mono _ _ _ _ (fun x c h=>h.keep (fun _ _=>rfl) fun _ h=>.inl h) ck)
   ·obtain⟨p,aa,_,ar,_⟩:=back k o ag
    obtain⟨ft,tn,_,Sz,_⟩:=back bj b6 dr;exact h.heap.inj k bj p ft b aa tn (ar.trans an) (Sz.trans qj) ad gK
   ·rintro⟨k,o,ag,an,a1⟩
    obtain⟨p,aa,af,ar,_⟩:=back k o ag
    rcases ad with ad|ad
    ·exact h.heap.fe b ad ⟨k,p,aa,ar.trans an,a1⟩
    ·exact af (h.heap.inj k id p _ b aa hid (ar.trans an) rfl a1 ad)
   ·rcases ad with ad|ad
    ·exact h.heap.lt b ad
    ·exact(dk.gI ad).1
   ·have bn:=h.trans
    refine⟨bn.os,bn.tape,bn.output,bn.size,bn.frame,fun b ad=>?_,fun b ad=>.inl (bn.iV b ad),?_,fun k aj o ag=>?_,fun k o ag=>?_,bn.le⟩
    ·rcases ad with ad|ad
     ·exact bn.h3 b ad
     ·rcases bn.gm b ⟨id,_,hid,rfl,ad⟩with hc|hc
      ·exact .inr (.inl hc)
      ·exact .inr (.inr hc)
    ·rintro b ⟨k,o,ag,an,a1⟩
     obtain⟨p,aa,_,ar,_⟩:=back k o ag;exact bn.gm b ⟨k,p,aa,ar.trans an,a1⟩
    ·obtain⟨p,aa,_,_,_⟩:=back k o ag
     exact bn.dj k aj p aa
    ·obtain⟨p,aa,_,_,_⟩:=back k o ag
     exact bn.new k p aa
 ·exact cw.refl s
end Go.aG
namespace Go.aG
open Go
def oc(s:ByteArray)(pos:Nat):y0:=⟨fun _ v o=>(∃b,v= .pointer (some ⟨b,0,none⟩))∧o= .stringIter s pos,fun _ _ _ _ _ h=>h,none,fun _ h=>by cases h⟩
section
variable {P:Program} {G:aY} {o:Oper} {s:aJ}
theorem run_newObj(hv:Obj)(w:World):(newObj hv).run P w= .ok w.heap.size (w.alloc hv):=rfl
theorem J8{w:World}{r:Nat}{b:ByteArray}{p:Nat}(h:w.heap[r]? =some (.stringIter b p)):(getObj r).run P w= .ok (.stringIter b p) w:=by simp[getObj,Sem.run,h]
theorem SA{w:World}{r:Nat}{b:ByteArray}{p:Nat}(hv:Obj)(h:w.heap[r]? =some (.stringIter b p)):(setObj r hv).run P w= .ok () {w with heap:=w.heap.setIfInBounds r hv}:=by simp[setObj,Sem.run,h]
theorem SB(t:TypeId)(x:Operand)(ao:o.op= .range t x)(aB:P.underlying t=some .string){b:ByteArray}(hx:aE G s x= .au (.v (.string b)))(ad:s.base≤s.next):
 dO P G o s ({s with heap:=(s.next,.bO (oc b 0))::s.heap,next:=s.next+1}.put o.dst (.ref s.next)):=by
 intro E a w ⟨β,ro,ae⟩ K Q hK
 unfold Oper.wp
 simp only[execOp,ao,ae.dU hx,Sem.run_bind,Instr.range,run_underlying aB,Result.andThen_ok,Sem.run_pure]
 have j6:aA s.heap s.next=none:=by
  cases ag:aA s.heap s.next with
  |none=>rfl
  |some p=>have:=ae.trans.new _ _ ag;omega
 have fO:=ae.new (w':=w.alloc (.stringIter b 0)) s.next j6 ad (Nat.le_refl _) (.bO (oc b 0)) (.pointer (some ⟨w.heap.size,0,none⟩)) rfl rfl rfl (by simp) (fun b ad=>Go.RowKit.Below.heap_alloc w _ b ad) (fun b ad=>by simp[b0]at ad;omega) rfl
  (.bO _ w.heap.size (.stringIter b 0) (by rw[dY];rfl) (heap_alloc_new w _) ⟨⟨_,dY _ _ _⟩,rfl⟩)
 have aj:=hK _ _ ⟨_,ro,fO.put o.dst (.ref s.next) (.pointer (some ⟨w.heap.size,0,none⟩)) (.ref _ _ (Nat.lt_succ_self _) fun br _=>(dY _ _ _).symm)⟩
 rw[run_newObj]
 exact aj
theorem SC(x:Operand)(ao:o.op= .next x true){id:Nat}(hx:aE G s x= .ref id){b:ByteArray}{pos:Nat}(hid:aA s.heap id=some (.bO (oc b pos)))(ak:b.size≤pos):
 cE P G o s (.tuple [.au (.v (.bool false))]):=
 fun E a w β ro ae=>by
  have c7:=ae.heap.cL id _ hid
  cases c7 with
  |bO _ DX hv aa af ar=>
   obtain⟨⟨b',gK⟩,rfl⟩:=ar
   have jJ:=ae.eval x
   rw[hx]at jJ;generalize he:a.eval x=c at jJ
   cases jJ with
   |ref _ _ _ hc=>
    have rX:=hc _ hid
    rw[gK]at aa rX;simp only[b0,Option.some.injEq]at aa;subst aa;refine⟨.tuple #[.bool false],?_,.tuple _ _ rfl fun j y ai=>?_⟩
    ·have hn: ¬pos<b.size:=by omega
     rw[rX]at he;simp[execOp,ao,he,Instr.next,J8 af,hn]
    ·cases j with
     |zero=>simp at ai;subst ai;exact .fw rfl
     |succ j=>simp at ai
theorem SD(x:Operand)(ao:o.op= .next x true){id:Nat}(hx:aE G s x= .ref id){b:ByteArray}{pos:Nat}(hid:aA s.heap id=some (.bO (oc b pos)))(ak:pos<b.size){c k:Nat}(hd:Utf8.decode b pos=(c,k)):
 dO P G o s ({s with heap:=eG s.heap id (.bO (oc b (pos+k)))}.put o.dst (.tuple [.au (.v (.bool true)),.au (.v (.int .i64 (pos:Int))),.au (.v (.int .i32 (c:Int)))])):=by
 intro E a w ⟨β,ro,ae⟩ K Q hK
 have c7:=ae.heap.cL id _ hid
 cases c7 with
 |bO _ DX hv aa af ar=>
  obtain⟨⟨b',gK⟩,rfl⟩:=ar
  have jJ:=ae.eval x
  rw[hx]at jJ;generalize he:a.eval x=pe at jJ
  cases jJ with
  |ref _ _ _ hc=>
   have rX:=hc _ hid
   have od:=aa
   rw[gK]at aa rX;simp only[b0,Option.some.injEq]at aa;subst aa;rw[rX]at he;unfold Oper.wp
   have cD:(execOp a.eval o).run P w= .ok (.value (.tuple #[.bool true,goInt pos,.int .i32 c])) {w with heap:=w.heap.setIfInBounds b' (.stringIter b (pos+k))}:=by
    simp[execOp,ao,he,Instr.next,J8 af,ak,hd,SA _ af]
   rw[cD]
   have bz:=(Array.getElem?_eq_some_iff.1 af).1
   have hw:=ae.write (w':={w with heap:=w.heap.setIfInBounds b' (.stringIter b (pos+k))}) id _ (.bO (oc b (pos+k))) hid rfl rfl (.inr (.inr ⟨_,_,rfl,rfl⟩)) rfl rfl rfl (by simp) (fun j ai bX=>by
    have:b'≠j:=fun e=>bX (by rw[gK,←e];rfl)
    simp[Array.getElem?_setIfInBounds_ne this]) (.bO _ b' (.stringIter b (pos+k)) od (by simp[bz]) ⟨⟨b',gK⟩,rfl⟩)
   refine hK _ _ ⟨β,ro,hw.put o.dst _ _ (.tuple _ _ rfl fun j y ai=>?_)⟩
   match j,ai with
   |0,ai=>simp at ai;subst ai;exact .fw rfl
   |1,ai=>simp at ai;subst ai;exact .fw rfl
   |2,ai=>simp at ai;subst ai;exact .fw rfl
   |j+3,ai=>simp at ai
end
end Go.aG
namespace Go.aG
open Go
section
variable {P:Program} {G:aY} {o:Oper} {s:aJ} {E:Entry} {a:Act} {w w':World} {β:Nat→Value} {ro ro':Nat→Prop}
theorem cP.grow(h:cP E G s a w β ro)(na:w'.os=w.os)(nb:w'.tape=w.tape)(jH:w'.output=w.output)(bA:w.heap.size≤w'.heap.size)(hw: ∀b,b<w.heap.size→w'.heap[b]? =w.heap[b]?)
 (bZ: ∀b,ro b→ro' b)(fO: ∀b,ro' b→ro b∨(w.heap.size≤b∧b<w'.heap.size)):cP E G s a w' β ro':=by
 have aj: ∀b,ro b→w'.heap[b]? =w.heap[b]? :=fun b ad=>hw b (h.heap.lt b ad)
 refine⟨h.defers,h.size,fun i x hx=>(h.slot i x hx).keep aj bZ (Nat.le_refl _) (fun _ t cs ag=>⟨rfl,t,cs,ag⟩) (fun _ z t _ es ag=>⟨rfl,z,t,es,ag⟩) (fun _ br ag=>⟨rfl,br,ag⟩),
  ⟨fun id hv ag=>(h.heap.cL id hv ag).keep aj bZ (Nat.le_refl _) bA rfl (fun an b ad=>hw b ((h.heap.cL id hv ag).gI an ad)) (fun _ t cs ag=>⟨rfl,t,cs,ag⟩) (fun _ z t _ es ag=>⟨rfl,z,t,es,ag⟩) (fun _ br ag=>⟨rfl,br,ag⟩),h.heap.inj,fun b ad ao=>?_,fun b ad=>?_⟩,
  h.ha.keep aj bZ,?_,h.base⟩
 ·rcases fO b ad with aa|⟨aa,_⟩
  ·exact h.heap.fe b aa ao
  ·obtain⟨id,hv,ag,an,gK⟩:=ao
   have:=(h.heap.cL id hv ag).gI an gK
   omega
 ·rcases fO b ad with aa|⟨_,aa⟩
  ·exact Nat.lt_of_lt_of_le (h.heap.lt b aa) bA
  ·exact aa
 ·have t:=h.trans
  refine⟨na.trans t.os,nb.trans t.tape,jH.trans t.output,Nat.le_trans t.size bA,fun b ad hn=>(hw b (Nat.lt_of_lt_of_le ad t.size)).trans (t.frame b ad hn),fun b ad=>?_,fun b ad=>bZ b (t.iV b ad),t.gm,t.dj,t.new,t.le⟩
  rcases fO b ad with aa|⟨aa,_⟩
  ·exact t.h3 b aa
  ·exact .inr (.inr (Nat.le_trans t.size aa))
theorem dO.DY{t:TypeId}{n:Nat}{es:List (List ba)}(aV:tl P G o s t n es):dO P G o s (s.put o.dst (.au (.aL n es))):=by
 obtain⟨hn,h⟩:=aV
 intro E a w ⟨β,ro,ae⟩ K Q hK
 obtain⟨v,xs,w',cD,iC,cJ,gr,e0⟩:=h E a w β ro ae
 unfold Oper.wp
 rw[cD]
 have hw: ∀b,b<w.heap.size→w'.heap[b]? =w.heap[b]? :=fun b ad=>cJ.block b ad (by simp)
 have dk:jG w' t n v es.length xs:=.DO iC
 have ag:=ae.grow (ro':=fun b=>ro b∨b0 v=some b) cJ.os cJ.tape cJ.output cJ.size hw (fun _ h=>.inl h) (fun b ad=>by
  rcases ad with h|h
  ·exact .inl h
  ·exact .inr ⟨gr b h,(dk.gI h).1⟩)
 exact hK _ _ ⟨β,_,ag.put o.dst _ _ (.au _ _ (dk.DW hn (fun j x ai=>(e0 j x ai).keep (fun b ad=>hw b (ae.heap.lt b ad)) fun _ h=>.inl h) fun b ad=>.inr ad))⟩
mutual
theorem J9(d:Nat): ∀(x:az),e1 x=true→n8 d x=x∧fQ 0 x=true
 | .au _,_=>⟨rfl,rfl⟩
 | .agg cs,h=>by
  have:=wj d cs (by simpa[e1]using h)
  exact⟨by simp[n8,this.1],by simpa[fQ]using this.2⟩
 | .tuple cs,h=>by
  have:=wj d cs (by simpa[e1]using h)
  exact⟨by simp[n8,this.1],by simpa[fQ]using this.2⟩
 | .fn f p q,h=>by
  simp only[e1,Bool.and_eq_true]at h
  have aa:=wj d p h.1
  have af:=wj d q h.2
  exact⟨by simp[n8,aa.1,af.1],by simp[fQ,aa.2,af.2]⟩
 | .top,_=>⟨rfl,rfl⟩
 | .ptr _ _,h=>by simp[e1]at h
 | .dh _ _,h=>by simp[e1]at h
 | .cn _ _ _,h=>by simp[e1]at h
 | .aL _,h=>by simp[e1]at h
 | .ref _,h=>by simp[e1]at h
theorem wj(d:Nat): ∀(l:List az),ep l=true→kz d l=l∧j7 0 l=true
 |[],_=>⟨rfl,rfl⟩
 |x::r,h=>by
  simp only[ep,Bool.and_eq_true]at h
  have aa:=J9 d x h.1
  have af:=wj d r h.2
  exact⟨by simp[kz,aa.1,af.1],by simp[j7,aa.2,af.2]⟩
end
theorem dO.SE{x:Operand}{xs:Array Operand}{ts:Array TypeId}(ao:o.op= .call {callee:=.value x,args:=xs,argTypes:=ts}){f:FuncId}(hx:aE G s x= .fn (.func f) [] [])
 (fR:lH P f=true){args:List az}(hy:xs.toList.map (fun y=>lF s.heap (aE G s y))=args)(ni:ep args=true){r:az}(hc:dn P G f args [] 0 fun cB bE=>cB=r∧bE=[])(ae:e1 r=true)(ad:s.base≤s.next):
 dO P G o s (s.put o.dst r):=by
 obtain⟨DZ,SF⟩:=J9 s.next r ae
 have:=dO.call (K:=0) ao hx fR hy ni hc (fun _ _ h=>h) SF rfl ad
 rw[DZ]at this
 exact this
def h8(ks:List Nat)(l:List az):List az:=l.mapIdx fun i x=>if ks.contains i then x else .top
theorem wk(ks:List Nat)(l:List az)(i:Nat):(h8 ks l)[i]? =(l[i]?).map fun x=>if ks.contains i then x else .top:=by
 simp[h8]
theorem cP.mask(h:cP E G s a w β ro)(ks:List Nat):cP E G {s with cl:=h8 ks s.cl} a w β ro:=by
 refine⟨h.defers,by simp[h8,h.size],fun i x hx=>?_,h.heap,h.ha,h.trans,h.base⟩
 simp only[wk]at hx
 cases hi:s.cl[i]? with
 |none=>simp[hi]at hx
 |some y=>
  simp only[hi,Option.map_some,Option.some.injEq]at hx
  split at hx
  ·subst hx;exact h.slot i y hi
  ·subst hx;exact .top _
def DStep(P:Program)(G:aY)(ops:Array Oper)(cV:aJ)(T:List az)(o:Oper)(v:az):Prop:=
 ∀s:aJ,s.heap=cV.heap→s.next=cV.next→s.base=cV.base→s.cl.length=T.length→(∀t∈o.looksAt ops,s.cl[t]? =T[t]?)→
  (dD ops s o=some true∧dO P G o s (s.put o.dst v))∨(dD ops s o=some false∧v= .tuple [])
theorem D0{ks:List Nat}{l eB:List az}(hlen:l.length=eB.length)(h: ∀t∈ks,l[t]? =eB[t]?):h8 ks l=h8 ks eB:=by
 apply List.ext_getElem?
 intro i
 rw[wk,wk]
 by_cases hi:i∈ks
 ·rw[h i hi]
 ·have hc:ks.contains i=false:=by simpa using hi
  simp only[hc]
  by_cases an:i<l.length
  ·rw[List.getElem?_eq_getElem an,List.getElem?_eq_getElem (by omega)];rfl
  ·rw[List.getElem?_eq_none (by omega),List.getElem?_eq_none (by omega)]
theorem D1{ops:Array Oper}{ks:List Nat}(aj: ∀j b,o.guard=some (j,b)→∀d,k3 ops j=some d→d∈ks):dD ops {s with cl:=h8 ks s.cl} o=dD ops s o:=by
 unfold dD
 cases ag:o.guard with
 |none=>rfl
 |some D2=>
  obtain⟨j,b⟩:=D2;simp only
  cases hd:k3 ops j with
  |none=>rfl
  |some d=>
   have hm:ks.contains d=true:=by simpa using aj j b ag d hd
   simp only[wk]
   cases ah:s.cl[d]? with
   |none=>simp
   |some x=>simp only[Option.map_some,hm,if_true]
theorem D3{ops:Array Oper}(j:Nat)(b:Bool)(ag:o.guard=some (j,b))(d:Nat)(hd:k3 ops j=some d):d∈o.looksAt ops:=by
 unfold k3 at hd
 simp[Oper.looksAt,ag,hd]
theorem DStep.val{ops:Array Oper}{cV:aJ}{T:List az}{v:az}(ag:dD ops ⟨h8 (o.looksAt ops) T,cV.heap,cV.next,cV.base⟩ o=some true)(av:pc P G o ⟨h8 (o.looksAt ops) T,cV.heap,cV.next,cV.base⟩=some v):DStep P G ops cV T o v:=by
 intro s aa af ar hlen bs
 have hm:=D0 hlen bs
 have di:({s with cl:=h8 (o.looksAt ops) s.cl}:aJ)=⟨h8 (o.looksAt ops) T,cV.heap,cV.next,cV.base⟩:=by rw[hm,←aa,←af,←ar]
 refine .inl ⟨by rw[←D1 (ks:=o.looksAt ops) D3,di];exact ag,cE.step fun E a w β ro ae=>?_⟩
 have dC:=ae.mask (o.looksAt ops)
 rw[di]at dC
 have:=DV av E a w β ro dC
 simpa only[aa,af]using this
theorem SG{ks:List Nat}{y:Operand}(ax: ∀t,y= .tmp t→t∈ks):aE G {s with cl:=h8 ks s.cl} y=aE G s y:=by
 cases y with
 |tmp t=>
  have hm:ks.contains t=true:=by simpa using ax t rfl
  simp only[aE,List.getD,wk]
  cases ah:s.cl[t]? with
  |none=>rfl
  |some x=>simp only[Option.map_some,hm,if_true]
 |_=>rfl
theorem DStep.of{ops:Array Oper}{cV:aJ}{T:List az}{v:az}(ag:dD ops ⟨h8 (o.looksAt ops) T,cV.heap,cV.next,cV.base⟩ o=some true)
 (h: ∀s:aJ,s.heap=cV.heap→s.next=cV.next→s.base=cV.base→(∀y:Operand,(∀t,y= .tmp t→t∈o.looksAt ops)→aE G s y=aE G ⟨h8 (o.looksAt ops) T,cV.heap,cV.next,cV.base⟩ y)→dO P G o s (s.put o.dst v)):DStep P G ops cV T o v:=by
 intro s aa af ar hlen bs
 have hm:=D0 hlen bs
 have di:({s with cl:=h8 (o.looksAt ops) s.cl}:aJ)=⟨h8 (o.looksAt ops) T,cV.heap,cV.next,cV.base⟩:=by rw[hm,←aa,←af,←ar]
 refine .inl ⟨by rw[←D1 (ks:=o.looksAt ops) D3,di];exact ag,h s aa af ar fun y ax=>?_⟩
 rw[←di]
 exact(SG ax).symm
end
end Go.aG
namespace Go.aG
open Go
def tq(l:List Oper)(qk:List az)(oe:List az)(E:Nat→Prop)(T:List az):Prop:=
 T.length=oe.length∧∀t,t<oe.length→((∀j o,l[j]? =some o→E j→o.dst≠some t)→T[t]? =oe[t]?)∧(∀j o,l[j]? =some o→E j→o.dst=some t→T[t]? =qk[j]?)
theorem tq.same{l:List Oper}{qk oe T Ka:List az}{E tr:Nat→Prop}(h:tq l qk oe E T)(h':tq l qk oe tr Ka)(t:Nat)(he: ∀j o,l[j]? =some o→o.dst=some t→(E j↔tr j)):T[t]? =Ka[t]? :=by
 by_cases aB:t<oe.length
 ·by_cases hx: ∃j o,l[j]? =some o∧E j∧o.dst=some t
  ·obtain⟨j,o,aa,af,ar⟩:=hx
   rw[(h.2 t aB).2 j o aa af ar,(h'.2 t aB).2 j o aa ((he j o aa ar).1 af) ar]
  ·have aC: ∀j o,l[j]? =some o→E j→o.dst≠some t:=fun j o aa af ar=>hx ⟨j,o,aa,af,ar⟩
   have a6: ∀j o,l[j]? =some o→tr j→o.dst≠some t:=fun j o aa af ar=>hx ⟨j,o,aa,(he j o aa ar).2 af,ar⟩
   rw[(h.2 t aB).1 aC,(h'.2 t aB).1 a6]
 ·rw[List.getElem?_eq_none (by have:=h.1;omega),List.getElem?_eq_none (by have:=h'.1;omega)]
def tt(T:List az)(dst:Option Nat)(v:az):List az:=
 match dst with
 |some d=>T.set d v
 |none=>T
theorem SH(T:List az)(dst:Option Nat)(v:az):(tt T dst v).length=T.length:=by
 cases dst<;>simp[tt]
theorem tq.put{l:List Oper}{qk oe T:List az}{E:Nat→Prop}(h:tq l qk oe E T){i:Nat}{o:Oper}{v:az}(hi:l[i]? =some o)(av:qk[i]? =some v)
 (hd: ∀j p,l[j]? =some p→E j→p.dst≠none→p.dst≠o.dst){tr:Nat→Prop}(lu: ∀j,tr j↔E j∨j=i):tq l qk oe tr (tt T o.dst v):=by
 refine⟨by rw[SH];exact h.1,fun t aB=>⟨fun hn=>?_,fun j p ai D4 ak=>?_⟩⟩
 ·have aa:=(h.2 t aB).1 fun j p ai D4=>hn j p ai ((lu j).2 (.inl D4))
  cases ql:o.dst with
  |none=>exact aa
  |some d=>
   have bX:d≠t:=fun e=>hn i o hi ((lu i).2 (.inr rfl)) (by rw[ql,e])
   simp only[tt];rw[List.getElem?_set_ne bX]
   exact aa
 ·rcases (lu j).1 D4 with aa|aa
  ·have af:=(h.2 t aB).2 j p ai aa ak
   cases ql:o.dst with
   |none=>exact af
   |some d=>
    have bX:d≠t:=fun e=>hd j p ai aa (by rw[ak];simp) (by rw[ak,ql,e])
    simp only[tt];rw[List.getElem?_set_ne bX]
    exact af
  ·subst aa
   rw[hi]at ai;simp only[Option.some.injEq]at ai;subst ai;rw[ak];simp only[tt];rw[List.getElem?_set_self (by have:=h.1;omega),av]
section
variable {P:Program} {G:aY} {cV:aJ}
abbrev tu(ops:Array Oper)(cV:aJ)(T:List az)(o:Oper):aJ:=⟨h8 (o.looksAt ops) T,cV.heap,cV.next,cV.base⟩
theorem DStep.row{ops:Array Oper}{T:List az}{o:Oper}{t n:Nat}{es:List (List ba)}(ag:dD ops (tu ops cV T o) o=some true)(h:tl P G o (tu ops cV T o) t n es):DStep P G ops cV T o (.au (.aL n es)):=by
 intro s aa af ar hlen bs
 have hm:=D0 hlen bs
 have di:({s with cl:=h8 (o.looksAt ops) s.cl}:aJ)=tu ops cV T o:=by rw[hm,aa,af,ar]
 refine .inl ⟨by rw[←D1 (ks:=o.looksAt ops) D3,di];exact ag,dO.DY (t:=t) ⟨h.1,fun E a w β ro ae=>?_⟩⟩
 have dC:=ae.mask (o.looksAt ops)
 rw[di]at dC
 exact h.2 E a w β ro dC
theorem DStep.call{ops:Array Oper}{T:List az}{o:Oper}{x:Operand}{xs:Array Operand}{ts:Array TypeId}(ao:o.op= .call {callee:=.value x,args:=xs,argTypes:=ts})(ag:dD ops (tu ops cV T o) o=some true){f:FuncId}
 (hx:aE G (tu ops cV T o) x= .fn (.func f) [] [])(fR:lH P f=true){args:List az}(hy:xs.toList.map (fun y=>lF cV.heap (aE G (tu ops cV T o) y))=args)(ni:ep args=true){r:az}
 (hc:dn P G f args [] 0 fun cB bE=>cB=r∧bE=[])(ae:e1 r=true)(ad:cV.base≤cV.next):DStep P G ops cV T o r:=by
 refine DStep.of ag fun s aa af ar ax=>?_
 have Kb: ∀y:Operand,(y=x∨y∈xs)→∀t,y= .tmp t→t∈o.looksAt ops:=by
  intro y ax t aB;subst aB;refine List.mem_append_left _ (List.mem_filterMap.2 ⟨.tmp t,?_,rfl⟩)
  rw[ao];simp only[Op.operands,Call.operands]
  rcases ax with h|h
  ·rw[←h];simp
  ·simp[h]
 refine dO.SE ao (by rw[ax x (Kb x (.inl rfl))];exact hx) fR (args:=args) ?_ ni hc ae (by rw[af,ar];exact ad)
 rw[←hy]
 apply List.map_congr_left
 intro y hm
 rw[aa,ax y (Kb y (.inr (by simpa using hm)))]
theorem DStep.cast{ops:Array Oper}{T:List az}{o:Oper}{v bo:az}(h:DStep P G ops cV T o v)(e:v=bo):DStep P G ops cV T o bo:=e ▸ h
end
end Go.aG
namespace Go.aG
open Go
section
variable {P:Program} {G:aY} {o:Oper} {s:aJ}
def tv(P:Program)(t:TypeId):Option (TypeId × Nat × List Value):=
 match P.underlying t with
 |some (.slice e)=>match P.info? e,zeroCells P e with
  |some i,some zs=>if zs.all Value.oneCell'∧zs.length=i.size∧0<i.size then some (e,i.size,zs)else none
  |_,_=>none
 |_=>none
def og(P:Program)(G:aY)(s:aJ)(t:TypeId)(len:Nat)(parts:List (Nat × Operand)):Option (TypeId × Nat × List (List ba)):=
 match tv P t with
 |some (e,n,zs)=>
  if len=0 then(if parts.isEmpty then some (e,n,[])else none)
  else if len*n≤16777216∧(parts.map fun p=>(p.1,aE G s p.2)).all (fun p=>(ch p.2).all (dT s.heap))then
   match ja (fun i=>some (i*n,n)) ((List.replicate len (zs.map fun z=>az.au (.v z))).flatten) (parts.map fun p=>(p.1,aE G s p.2))with
   |some ds=>match hN ds with
    |some rs=>some (e,n,chunk n len rs)
    |none=>none
   |none=>none
  else none
 |none=>none
theorem D5{t:TypeId}{len:Nat}{parts:Array (Nat × Operand)}(ao:o.op= .buildSlice t len parts){e n:Nat}{es:List (List ba)}(h:og P G s t len parts.toList=some (e,n,es)):tl P G o s e n es:=by
 unfold og at h
 split at h
 ·rename_i aw cy zs aB
  unfold tv at aB
  split at aB
  ·rename_i a6 hu
   split at aB
   ·rename_i i SI hi bl
    split at aB
    ·rename_i hc
     simp only[Option.some.injEq,Prod.mk.injEq]at aB;obtain⟨rfl,rfl,rfl⟩:=aB
     split at h
     ·rename_i hlen
      subst hlen
      split at h
      ·rename_i ak
       simp only[Option.some.injEq,Prod.mk.injEq]at h;obtain⟨rfl,rfl,rfl⟩:=h;refine⟨by simp,fun E a w β ro ae=>⟨.slice (some ⟨w.heap.size,0,none⟩) 0 0,[],w.alloc (.cells #[] a6),?_,?_,World.grownBy_alloc w _ none,fun b ad=>by simp[b0]at ad,by simp⟩⟩
       ·have fV:parts= #[]:=by
         apply Array.ext';simpa using ak
        subst fV;simp[execOp,ao,Instr.buildSlice,run_underlying hu,sizeOf,typeInfo,hi,Instr.fill,newRow,Sem.run_bind,Array.range_zero']
       ·exact World.ownsRow_lit w #[] 0 (Nat.zero_le _) (Nat.zero_le _) (by simp)
      ·cases h
     ·rename_i hlen
      split at h
      ·rename_i DL
       split at h
       ·rename_i ds hf
        split at h
        ·rename_i rs mg
         simp only[Option.some.injEq,Prod.mk.injEq]at h;obtain⟨rfl,rfl,rfl⟩:=h
         have SJ:0<len*i.size:=Nat.mul_pos (Nat.pos_of_ne_zero hlen) hc.2.2
         exact Sm t len parts ao hu (by simp[hi]) bl hc.1 hc.2.1 ⟨SJ,DL.1⟩ rfl DL.2 hf mg
        ·cases h
       ·cases h
      ·cases h
    ·cases aB
   ·cases aB
  ·cases aB
 ·cases h
end
theorem SK{k:Nat}(h:k+1≤9223372036854775807):IntKind.i64.wrap ((k:Int)+1)=((k+1:Nat):Int):=by
 rw[eM _ (by omega) (by omega)]
 rfl
end Go.aG
namespace Go.aG
open Go
def tw(m:Option Nat):az→az
 | .au (.v (.slice none 0 0))=>match m with
  |some n=>.au (.aL n [])
  |none=>.au (.v (.slice none 0 0))
 |x=>x
def pf:List (Option Nat)→List az→List az
 |m::ms,c::cs=>tw m c::pf ms cs
 |_,cs=>cs
def D6(m:List (Option Nat)):az→az
 | .agg cs=>.agg (pf m cs)
 |x=>tw (m.headD none) x
def aJ.wm(s:aJ)(k:Nat)(m:List (Option Nat)):aJ:=
 {s with cl:=match s.cl[k]? with|some x=>s.cl.set k (D6 m x)|none=>s.cl}
theorem Kc{w:World}{ro:Nat→Prop}{σ:bp}{β:Nat→Value}{N:Nat}{m:Option Nat}{x:az}{c:Value}(h:bk w ro σ β N x c):bk w ro σ β N (tw m x) c:=by
 unfold tw
 split
 ·cases m with
  |none=>exact h
  |some n=>
   refine .au _ _ ?_
   cases h with
   |au _ _ h=>
    cases h;exact .aL n [] none 0 (fun _=>undef) (Nat.le_refl _) (Nat.zero_le _) (by simp) (by simp) (by simp)
 ·exact h
theorem SL{m:List (Option Nat)}{cs:List az}{j:Nat}{x:az}(h:(pf m cs)[j]? =some x): ∃y p,cs[j]? =some y∧x=tw p y:=by
 induction m generalizing cs j with
 |nil=>exact⟨x,none,by simpa[pf]using h,by unfold tw;split<;>rfl⟩
 |cons a m aO=>
  cases cs with
  |nil=>simp[pf]at h
  |cons c cs=>
   cases j with
   |zero=>simp[pf]at h;exact⟨c,a,rfl,h.symm⟩
   |succ j=>simp only[pf,List.getElem?_cons_succ]at h⊢;exact aO h
theorem SM(m:List (Option Nat))(cs:List az):(pf m cs).length=cs.length:=by
 induction m generalizing cs with
 |nil=>rfl
 |cons a m aO=>cases cs<;>simp[pf,aO]
theorem SN{w:World}{ro:Nat→Prop}{σ:bp}{β:Nat→Value}{N:Nat}{m:List (Option Nat)}{x:az}{c:Value}(h:bk w ro σ β N x c):bk w ro σ β N (D6 m x) c:=by
 unfold D6
 split
 ·cases h with
  |agg cs c aa af=>
   refine .agg _ _ (by rw[aa,SM]) fun j y ai=>?_
   obtain⟨z,p,bl,rfl⟩:=SL ai;exact Kc (af j z bl)
 ·exact Kc h
theorem cw.wm{s bd:aJ}(k:Nat)(m:List (Option Nat))(h:s.wm k m=bd):cw s bd:=by
 subst h
 intro E G a w ⟨β,ro,h⟩
 unfold aJ.wm
 cases aj:s.cl[k]? with
 |none=>exact⟨β,ro,h⟩
 |some x=>
  refine⟨β,ro,h.defers,by simp[h.size],fun i y ax=>?_,h.heap,h.ha,h.trans,h.base⟩
  rw[List.getElem?_set]at ax
  split at ax
  ·rename_i e
   subst e
   split at ax
   ·simp only[Option.some.injEq]at ax
    subst ax;exact SN (h.slot k x aj)
   ·cases ax
  ·exact h.slot i y ax
end Go.aG
namespace Go.aG
open Go
theorem cw.SO{s bd:aJ}(k e n:Nat)(aj:s.cl[k]? =some (.au (.v (.slice none 0 0))))(ad:s.base≤s.next)
 (h:({s with cl:=s.cl.set k (.aL s.next),heap:=(s.next,.row false e n [])::s.heap,next:=s.next+1}:aJ)=bd):cw s bd:=by
 subst h
 intro E G a w ⟨β,ro,ae⟩
 have j6:aA s.heap s.next=none:=by
  cases ag:aA s.heap s.next with
  |none=>rfl
  |some p=>have:=ae.trans.new _ _ ag;omega
 have wo:=bk.val (ae.slot k _ aj)
 have fO:=ae.new (w':=w) s.next j6 ad (Nat.le_refl _) (.row false e n []) (.slice none 0 0) rfl rfl rfl (Nat.le_refl _) (fun _ _=>rfl) (fun c hc=>by simp[b0]at hc) rfl
  (.row e n [] [] (by rw[dY];exact⟨by simp,.inl ⟨⟨none,rfl,fun _ h=>(by cases h)⟩,rfl⟩⟩) (by simp) (by simp))
 refine⟨_,ro,fO.defers,by simpa using fO.size,fun i y ax=>?_,fO.heap,fO.ha,fO.trans,fO.base⟩
 rw[List.getElem?_set]at ax
 split at ax
 ·rename_i aC
  subst aC
  split at ax
  ·simp only[Option.some.injEq]at ax
   subst ax;refine .aL _ _ (Nat.lt_succ_self _) fun z bn cy dX _=>?_
   rw[wo];exact(dY _ _ _).symm
  ·cases ax
 ·exact fO.slot i y ax
end Go.aG
namespace Go.aG
open Go
def rY(σ:bp):az→Option ba
 | .au x=>some x
 | .aL id=>match aA σ id with
  |some (.row _ _ n es)=>some (.aL n es)
  |_=>none
 | .ref id=>match aA σ id with
  |some (.bO br)=>br.view
  |_=>none
 |_=>none
def wq(σ:bp):List az→Option (List ba)
 |[]=>some []
 |x::r=>match rY σ x,wq σ r with
  |some y,some l=>some (y::l)
  |_,_=>none
mutual
def jM(σ:bp):az→az
 | .aL id=>match aA σ id with
  |some (.row _ _ n es)=>.au (.aL n es)
  |_=>.aL id
 | .ptr id off=>match aA σ id with
  |some (.box _ cs)=>(match wq σ (cs.drop off)with
   |some l=>.au (.ptr l)
   |none=>.ptr id off)
  |_=>.ptr id off
 | .agg cs=>.agg (gW σ cs)
 | .tuple cs=>.tuple (gW σ cs)
 | .fn f p q=>.fn f (gW σ p) (gW σ q)
 | .au x=>.au x
 | .cn id i off=>.cn id i off
 | .dh id n=>.dh id n
 | .ref id=>match aA σ id with
  |some (.bO br)=>(match br.view with
   |some x=>.au x
   |none=>.ref id)
  |_=>.ref id
 | .top=>.top
def gW(σ:bp):List az→List az
 |[]=>[]
 |x::r=>jM σ x::gW σ r
end
theorem rZ(σ:bp): ∀(l:List az),(gW σ l).length=l.length
 |[]=>rfl
 |x::r=>by simp[gW,rZ σ r]
theorem r0(σ:bp): ∀{l:List az} {j:Nat} {x:az},(gW σ l)[j]? =some x→∃y,l[j]? =some y∧x=jM σ y
 |[],j,x,h=>by simp[gW]at h
 |y::r,j,x,h=>by
  cases j with
  |zero=>simp[gW]at h;exact⟨y,by simp,h.symm⟩
  |succ j=>simp[gW]at h;simpa using r0 σ h
theorem Kd(σ:bp): ∀{l:List az} {m:List ba},wq σ l=some m→∀{j:Nat} {x:ba},m[j]? =some x→∃y,l[j]? =some y∧rY σ y=some x
 |[],m,h,j,x,ai=>by simp[wq]at h;subst h;simp at ai
 |y::r,m,h,j,x,ai=>by
  simp only[wq]at h
  split at h
  ·rename_i z l aa af
   simp only[Option.some.injEq]at h;subst h
   cases j with
   |zero=>simp at ai;subst ai;exact⟨y,rfl,aa⟩
   |succ j=>simp at ai;simpa using Kd σ af ai
  ·cases h
abbrev r1(ro:Nat→Prop)(σ:bp)(β:Nat→Value):Nat→Prop:=fun b=>ro b∨Own σ β b
theorem Ke{w:World}{ro:Nat→Prop}{σ:bp}{β:Nat→Value}{N id:Nat}(aV:gJ w ro σ β N){z:Bool}{t:TypeId}{n:Nat}{es:List (List ba)}(ag:aA σ id=some (.row z t n es)):c6 w (r1 ro σ β) (.aL n es) (β id):=by
 have ao:=aV.cL id _ ag
 cases ao with
 |row t n es xs aa af ar=>exact aa.DW af (fun j x ai=>(ar j x ai).keep (fun _ _=>rfl) fun _ h=>.inl h) fun b ad=>.inr ⟨id,_,ag,rfl,ad⟩
 |fG t n es aa=>exact aa.keep (fun _ _=>rfl) fun _ h=>.inl h
theorem Kf{w:World}{ro:Nat→Prop}{σ:bp}{β:Nat→Value}{N id:Nat}(aV:gJ w ro σ β N){br:y0}(ag:aA σ id=some (.bO br)){au:ba}(av:br.view=some au):c6 w (r1 ro σ β) au (β id):=by
 have ao:=aV.cL id _ ag
 cases ao with
 |bO _ b o aa af ar=>exact br.RR au av w ro _ _ o b ar aa af (fun _ h=>.inl h) (.inr ⟨id,_,ag,rfl,aa⟩)
theorem SP{w:World}{ro:Nat→Prop}{σ:bp}{β:Nat→Value}{N:Nat}(aV:gJ w ro σ β N){x:az}{c:Value}{y:ba}(h:bk w ro σ β N x c)(ax:rY σ x=some y):c6 w (r1 ro σ β) y c:=by
 cases h with
 |au x c hx=>
  simp only[rY,Option.some.injEq]at ax;subst ax;exact hx.keep (fun _ _=>rfl) fun _ h=>.inl h
 |aL id c an ak=>
  simp only[rY]at ax
  split at ax
  ·rename_i z t n es ag
   simp only[Option.some.injEq]at ax;subst ax;rw[ak z t n es ag];exact Ke aV ag
  ·cases ax
 |ref id c an ak=>
  simp only[rY]at ax
  split at ax
  ·rename_i br ag
   rw[ak br ag];exact Kf aV ag ax
  ·cases ax
 |_=>cases ax
theorem D7{w:World}{ro:Nat→Prop}{σ:bp}{β:Nat→Value}{N:Nat}(aV:gJ w ro σ β N){x:az}{c:Value}(h:bk w ro σ β N x c):bk w (r1 ro σ β) σ β N (jM σ x) c:=by
 induction h with
 |aL id c an ak=>
  simp only[jM]
  split
  ·rename_i z t n es ag
   rw[ak z t n es ag];exact .au _ _ (Ke aV ag)
  ·exact .aL id c an ak
 |ptr id off c an ak=>
  simp only[jM]
  split
  ·rename_i t cs ag
   split
   ·rename_i l D8
    obtain⟨b,ad,rfl⟩:=ak t cs ag
    have ao:=aV.cL id _ ag
    cases ao with
    |box t cs b' arr aC a6 ck eT=>
     rw[ad]at aC;simp only[Value.pointer.injEq,Option.some.injEq,Addr.mk.injEq,and_true]at aC;subst aC
     have at_: ∀j x,l[j]? =some x→∃y,cs[off+j]? =some y∧rY σ y=some x:=fun j x ai=>by
      obtain⟨y,aa,af⟩:=Kd σ D8 ai;rw[List.getElem?_drop]at aa
      exact⟨y,aa,af⟩
     refine .au _ _ (.ptr l _ (fun j=>arr.getD (off+j) undef) (fun j x ai=>?_) fun j x ai=>?_)
     ·obtain⟨y,aa,_⟩:=at_ j x ai
      refine⟨.inr ⟨id,_,ag,rfl,by rw[ad];rfl⟩,?_⟩
      have bz:off+j<arr.size:=by rw[ck];exact(List.getElem?_eq_some_iff.1 aa).1
      rw[addLit,cell_of_row w b (off+j) arr t (0,0) a6];simp[bz]
     ·obtain⟨y,aa,af⟩:=at_ j x ai
      exact SP aV (eT _ y aa) af
   ·exact .ptr id off c an ak
  ·exact .ptr id off c an ak
 |au x c h=>exact .au x c (h.keep (fun _ _=>rfl) fun _ h=>.inl h)
 |agg cs c aa _ aO=>
  refine .agg _ c (by rw[rZ];exact aa) fun j x ai=>?_
  obtain⟨y,ax,rfl⟩:=r0 σ ai;exact aO j y ax
 |tuple cs c aa _ aO=>
  refine .tuple _ c (by rw[rZ];exact aa) fun j x ai=>?_
  obtain⟨y,ax,rfl⟩:=r0 σ ai;exact aO j y ax
 |cn id i off c aa af=>exact .cn id i off c aa af
 |dh id n c aa af=>exact .dh id n c aa af
 |fn f p q c d aa af _ _ gp gq=>
  refine .fn f _ _ c d (by rw[rZ];exact aa) (by rw[rZ];exact af) (fun j x ai=>?_) (fun j x ai=>?_)
  ·obtain⟨y,ax,rfl⟩:=r0 σ ai
   exact gp j y ax
  ·obtain⟨y,ax,rfl⟩:=r0 σ ai
   exact gq j y ax
 |ref id c an ak=>
  simp only[jM]
  split
  ·rename_i br ag
   split
   ·rename_i au av
    rw[ak br ag];exact .au _ _ (Kf aV ag av)
   ·exact .ref id c an ak
  ·exact .ref id c an ak
 |top c=>exact .top c
mutual
def jc:az→Bool
 | .au (.v _)=>true
 | .agg cs=>lL cs
 | .tuple cs=>lL cs
 |_=>false
def lL:List az→Bool
 |[]=>true
 |x::r=>jc x&&lL r
end
theorem zr: ∀{cs:List az},lL cs=true→∀{j:Nat} {x:az},cs[j]? =some x→jc x=true
 |[],_,j,x,h=>by simp at h
 |y::r,ad,j,x,h=>by
  simp only[lL,Bool.and_eq_true]at ad
  cases j with
  |zero=>simp at h;subst h;exact ad.1
  |succ j=>simp at h;exact zr ad.2 h
theorem zt{w w':World}{ro ro':Nat→Prop}{σ bE:bp}{β vV:Nat→Value}{N M:Nat}{x:az}{c:Value}(h:bk w ro σ β N x c)(ak:jc x=true):bk w' ro' bE vV M x c:=by
 induction h with
 |au x c h=>
  cases h with
  |v _ hx=>exact .au _ _ (.v _ hx)
  |ptr=>simp[jc]at ak
  |aL=>simp[jc]at ak
  |mp=>simp[jc]at ak
  |li=>simp[jc]at ak
 |agg cs c aa _ aO=>
  simp only[jc]at ak;exact .agg cs c aa fun j x ai=>aO j x ai (zr ak ai)
 |tuple cs c aa _ aO=>
  simp only[jc]at ak;exact .tuple cs c aa fun j x ai=>aO j x ai (zr ak ai)
 |_=>simp[jc]at ak
section
variable {P:Program} {G:aY} {s:aJ}
theorem dO.D9{o:Oper}{x:Operand}{xs:Array Operand}{ts:Array TypeId}(ao:o.op= .call {callee:=.value x,args:=xs,argTypes:=ts}){f:FuncId}{p q:List az}(hx:aE G s x= .fn (.func f) p q)
 (fR:lH P f=true){args:List az}(hy:gW s.heap (p++xs.toList.map (aE G s)++q)=args)(ni:ep args=true){r:az}(hc:dn P G f args [] 0 fun cB r2=>cB=r∧r2=[])(hsc:jc r=true):
 dO P G o s (s.put o.dst r):=by
 intro E a w ⟨β,ro,h⟩ Se Sf DE
 have iF:=h.eval x
 rw[hx]at iF
 generalize he:a.eval x=zg at iF
 cases iF with
 |fn _ _ _ c d aa af ak aH=>
  unfold Oper.wp;simp only[execOp,ao,resolve,he,Deferred.ofValue,Sem.run_bind,Sem.run_pure,Result.andThen_ok,invoke];rw[ze fR]
  have me: ∀b,Own s.heap β b→b<w.heap.size:=fun b ⟨k,p,aj,ak,a1⟩=>(h.heap.cL k p aj).gI ak a1
  have hlen:args.length=p.length+xs.size+q.length:=by rw[←hy,rZ];simp[Nat.add_assoc]
  have dz: ∀i y,(p++xs.toList.map (aE G s)++q)[i]? =some y→bk w ro s.heap β s.next y ((c++xs.map a.eval++d).getD i undef):=fun i y ax=>by
   rw[Array.getD_eq_getD_getElem?]
   rcases Nat.lt_or_ge i (p.length+xs.size)with hi|hi
   ·rw[List.getElem?_append_left (by simpa using hi)]at ax
    rw[Array.getElem?_append_left (by simpa[aa]using hi)]
    rcases Nat.lt_or_ge i p.length with h1|h1
    ·rw[List.getElem?_append_left h1]at ax
     rw[Array.getElem?_append_left (by omega),←Array.getD_eq_getD_getElem?]
     exact ak i y ax
    ·rw[List.getElem?_append_right h1,List.getElem?_map]at ax
     rw[Array.getElem?_append_right (by omega),aa]
     cases bl:xs.toList[i-p.length]? with
     |none=>simp[bl]at ax
     |some z=>
      simp only[bl,Option.map_some,Option.some.injEq]at ax;subst ax
      have r3:xs[i-p.length]? =some z:=by simpa using bl
      simp only[Array.getElem?_map,r3,Option.map_some,Option.getD_some]
      exact h.eval z
   ·rw[List.getElem?_append_right (by simpa using hi)]at ax
    rw[Array.getElem?_append_right (by simpa[aa]using hi),←Array.getD_eq_getD_getElem?]
    have:=aH _ y ax
    simpa[aa]using this
  have gv:=hc w β (r1 ro s.heap β) (c++xs.map a.eval++d) (by simp only[Array.size_append,Array.size_map];omega) (fun i y ax=>by
   rw[←hy]at ax;obtain⟨z,bl,rfl⟩:=r0 _ ax
   exact mf (D7 h.heap (dz i z bl)) (lG ni (by rw[←hy];exact ax))) ⟨by simp[aA],by simp[aA],fun b _ ⟨_,_,ag,_⟩=>by simp[aA]at ag,fun b ad=>ad.elim (h.heap.lt b) (me b)⟩
   (h.ha.keep (fun _ _=>rfl) fun _ h=>.inl h) (by simp[aA])
  refine Calls.mono gv fun e w' aH=>?_
  obtain⟨v,dW,e2,dB,ro',cy,rfl,⟨rfl,rfl⟩,c1,gO,cb⟩:=aH
  have iT: ∀b,¬Own ([]:bp) β b:=fun b ⟨_,_,ag,_⟩=>by simp[aA]at ag
  have kA: ∀b,b<w.heap.size→w'.heap[b]? =w.heap[b]? :=fun b ad=>cb.frame b ad (iT b)
  have ag:=h.grow (w':=w') (ro':=ro) cb.os cb.tape cb.output cb.size kA (fun _ h=>h) (fun _ h=>.inl h)
  exact DE _ _ ⟨β,ro,ag.put o.dst _ _ (zt c1 hsc)⟩
theorem SQ{o:Oper}{f:FuncId}{p q:Array Operand}(ao:o.op= .makeFunc (.func f) p q):cE P G o s (.fn (.func f) (p.toList.map (aE G s)) (q.toList.map (aE G s))):=
 fun _ a w β ro ae=>by
  refine⟨.func (.func f) (p.map a.eval) (q.map a.eval),by simp[execOp,ao,Instr.makeFunc],.fn _ _ _ _ _ (by simp) (by simp) (fun j x ai=>?_) (fun j x ai=>?_)⟩<;>
  ·rw[List.getElem?_map]at ai
   rw[Array.getD_eq_getD_getElem?,Array.getElem?_map]
   simp only[Array.getElem?_toList]at ai
   obtain⟨z,bl,rfl⟩:=Option.map_eq_some_iff.1 ai;simp only[bl,Option.map_some,Option.getD_some];exact ae.eval z
end
end Go.aG
namespace Go.aG
open Go
inductive Hint (P:Program) (G:aY):Type 1 where
 |run (n:Nat)
 |cast (u v:az) (h:u=v)
 |idx {α:Type} (C:α→List ba) (l:List α) (n j:Nat) (e:α) (h:l[j]? =some e)
 |Kg (b:ByteArray) (j:Nat) (u:UInt8) (h:b.data.toList[j]? =some u)
 |len {α:Type} (C:α→List ba) (l:List α) (n:Nat)
 |call (f:FuncId) (args:List az) (r:az) (bE:bp) (K:Nat) (h:dn P G f args [] 0 fun cB r2=>cB=r∧r2=bE)
 |take {α:Type} (C:α→List ba) (l:List α) (n k:Nat) (h:k≤l.length)
 |Kh {α:Type} (C:α→List ba) (l:List α) (e n:Nat)
 |app {α:Type} (C:α→List ba) (l m:List α) (id e n bytes:Nat) (h:l.length+m.length≤maxLen∧(l.length+m.length)*bytes≤140737488355328)
 |Ki (mx:Bool) (a b:Int)
 |lit (e n:Nat) (es:List (List ba))
 |row (e n:Nat) (es:List (List ba))
 |wu (b:ByteArray)
 |wm (k:Nat) (m:List (Option Nat))
 |wh (id:Nat)
 |Kj {α:Type} (C:α→List ba) (l:List α) (id n j:Nat) (h:j<l.length)
 |Kk {α:Type} (C:α→List ba) (l:List α) (id n:Nat)
 |Kl {α:Type} (C:α→List ba) (l:List α) (id n j off k:Nat) (e:α) (h:l[j]? =some e)
 |Km {α:Type} (C:α→List ba) (l:List α) (id n j off:Nat) (e:α) (h:l[j]? =some e)
 |mk {α:Type} (C:α→List ba) (d:α) (m c e n bytes:Nat) (h:m≤c∧c≤maxLen∧bytes*c≤281474976710656)
 |Kn (j:Nat)
 |Ko {α:Type} (C:α→List ba) (l:List α) (n:Nat) (lo hi:Option Nat) (aa:lo.getD 0≤hi.getD l.length) (af:hi.getD l.length≤l.length)
 |Kp (b:ByteArray) (lo hi:Option Nat) (aa:lo.getD 0≤hi.getD b.size) (af:hi.getD b.size≤b.size)
 |slot (k:Nat) (u v:az) (h:u=v)
 |Ea (k e n:Nat)
 |Kq {α:Type} (C:α→List ba) (l:List α) (id n j off:Nat) (e:α) (h:l[j]? =some e)
 |Kr {α:Type} (C:α→List ba) (l:List α) (id n j off:Nat) (e aw:α) (h:l[j]? =some e)
 |Ks
 |D9 (f:FuncId) (p q args:List az) (r:az) (h:dn P G f args [] 0 fun cB r2=>cB=r∧r2=[])
def wv:ba→ba
 | .aL _ []=>.v (.slice none 0 0)
 | .li _ []=>.v (.slice none 0 0)
 |x=>x
theorem SR{w:World}{ro:Nat→Prop}{x:ba}{v:Value}(h:wv x= .v v)(av:v.oneCell'=true):c6 w ro x v:=by
 unfold wv at h
 split at h
 ·rename_i n
  simp only[ba.v.injEq]at h;subst h;exact .aL n [] none 0 (fun _=>undef) (Nat.le_refl _) (Nat.zero_le _) (by simp) (by simp) (by simp)
 ·rename_i i
  simp only[ba.v.injEq]at h;subst h;exact .li i [] _ (.aL (cO i) [] none 0 (fun _=>undef) (Nat.le_refl _) (Nat.zero_le _) (by simp) (by simp) (by simp))
 ·subst h
  exact .v _ av
section
variable {P:Program} {G:aY} {o:Oper} {s:aJ}
theorem SS{α:Type}(C:α→List ba)(d:α)(m c:Nat){t:TypeId}{x y:Operand}(ao:o.op= .makeSlice t x y){e n bytes:Nat}(aB:oa P t=some (e,n,bytes)){zs:List Value}(bl:zeroCells P e=some zs)(qd:zs.all Value.oneCell'=true)
 (hd:zs.map ba.v=(C d).map wv)(hx:aE G s x=hP (m:Int))(ax:aE G s y=hP (c:Int))(bA:m≤c∧c≤maxLen∧bytes*c≤281474976710656):
 tl P G o s e n ((List.replicate m d).map C):=by
 obtain⟨i,z,hu,hi,Kt,hA,h7,nk,hn⟩:=zm aB
 obtain⟨ht,_,nc,vZ,fZ,r3⟩:=vO (P:=P) bl default
 have Ku:z.cells=zs.toArray:=by
  rw[hi]at fZ;simp only[Option.some.injEq]at fZ;subst fZ;rw[Kt]at r3;simp only[Option.some.injEq]at r3;subst r3;exact nc
 have k7:zs.length=n:=by rw[←nk,Ku];simp
 have mi:(C d).length=n:=by rw[←k7];have:=congrArg List.length hd;simpa using this.symm
 have mc: ∀q∈(List.replicate m d).map C,q.length=n:=by
  intro q aH;rw[List.mem_map]at aH;obtain⟨u,hu,rfl⟩:=aH;rw[List.mem_replicate]at hu;rw[hu.2];exact mi
 refine⟨mc,fun E a w β ro ae=>?_⟩
 have SU:(c:Int)≤9223372036854775807:=by
  have h:=bA.2.1
  simp only[maxLen]at h;omega
 have wg:(i.bytes:Int)*(c:Int)≤281474976710656:=by
  have h:((i.bytes*c:Nat):Int)≤281474976710656:=by rw[h7];have:=bA.2.2;omega
  rwa[Int.natCast_mul]at h
 have cD:=run_make (P:=P) w t e i z hu hi Kt .i64 .i64 (m:Int) (c:Int) (by omega) (by have:=bA.1;omega) wg SU
 simp only[Int.toNat_natCast,hA]at cD
 refine⟨.slice (some ⟨w.heap.size,0,none⟩) m c,(madeCells z.cells (c*n)).toList.take (m*n),_,by simp only[execOp,ao,ae.dU hx,ae.dU ax,Sem.run_bind,cD,Result.andThen_ok,Sem.run_pure],⟨?_,.inr ⟨w.heap.size,c,madeCells z.cells (c*n),by rw[List.length_map,List.length_replicate],Nat.zero_le _,heap_alloc_new w _,by rw[List.length_map,List.length_replicate];exact bA.1,bA.2.1,size_madeCells _ _,by rw[List.length_map,List.length_replicate]⟩⟩,World.grownBy_alloc w _ none,fun b a1=>?_,fun j x ai=>?_⟩
 ·rw[List.length_take,Array.length_toList,size_madeCells,List.length_map,List.length_replicate,Nat.min_eq_left (Nat.mul_le_mul_right _ bA.1)]
 ·simp only[b0]at a1
  split at a1
  ·cases a1
  ·simp at a1;omega
 ·have dv:j<m*n:=by
   have:=(List.getElem?_eq_some_iff.1 ai).1
   rwa[iW mc,List.length_map,List.length_replicate]at this
  have hm:j=(j/ n)*n+j%n:=by rw[Nat.mul_comm];exact(Nat.div_add_mod j n).symm
  have mh:j%n<n:=Nat.mod_lt _ hn
  have SV:j/ n<m:=by rw[Nat.div_lt_iff_lt_mul hn];exact dv
  rw[hm,oV mc (i:=j/ n) (e:=C d) (by simp[SV]) (j%n) mh]at ai
  have ar:j%n<zs.length:=by omega
  have vN:j<c*n:=Nat.lt_of_lt_of_le dv (Nat.mul_le_mul_right _ bA.1)
  have aC:((madeCells z.cells (c*n)).toList.take (m*n)).getD j undef=zs[j%n]:=by
   simp[List.getD,dv,madeCells,Ku,vN,k7,List.getElem?_eq_getElem ar]
  rw[aC]
  have Kv:=congrArg (·[j%n]?) hd
  simp only[List.getElem?_map,ai,List.getElem?_eq_getElem ar,Option.map_some,Option.some.injEq]at Kv
  refine SR Kv.symm ?_
  rw[List.all_eq_true]at qd;exact qd _ (List.getElem_mem ar)
end
section
variable {P:Program} {G:aY} {o:Oper} {s:aJ}
theorem Kw(j:Nat){t:TypeId}{x i:Operand}(ao:o.op= .index t x i){len e:Nat}(hu:P.underlying t=some (.array len e))(hsc:scalar P e=true)(bA:(P.info? e).map (·.size)=some 1)(hi:aE G s i=hP (j:Int)){cs:List az}(hx:aE G s x= .agg cs){v:az}(av:cs[j]? =some v)(ai:j<len):cE P G o s v:=
 fun _ a w β ro ae=>by
  have h:=ae.eval x
  rw[hx]at h;generalize he:a.eval x=c at h
  cases h with
  |agg _ c ah hc=>
   have bz:j<c.size:=by have:=(List.getElem?_eq_some_iff.1 av).1;omega
   have wa:(sizeOf e).run P w= .ok 1 w:=by
    cases hi:P.info? e with
    |none=>simp[hi]at bA
    |some i=>simp[hi]at bA;simp[sizeOf,typeInfo,hi,bA]
   refine⟨c[j],?_,by simpa[bz]using hc _ v av⟩
   simp[execOp,ao,he,ae.dU hi,Instr.index,asIntOf,run_underlying hu,wa,part,vI hsc,bz,ai]
end
section
variable {P:Program} {G:aY}
def zu:Hint P G→az
 | .run _=>.top
 | .cast u _ _=>u
 | .idx C l n j _ _=>.tuple [.au (.aL n (l.map C)),hP (j:Int)]
 | .Kg b j _ _=>.tuple [vs b,hP (j:Int)]
 | .len C l n=>.au (.aL n (l.map C))
 | .call f args _ _ _ _=>.tuple (.fn (.func f) [] []::args)
 | .take C l n k _=>.tuple [.au (.aL n (l.map C)),hP (k:Int)]
 | .Kh C l _ n=>.au (.aL n (l.map C))
 | .app C l m id _ n _ _=>.tuple [.aL id,.au (.aL n (l.map C)),.au (.aL n (m.map C))]
 | .Ki _ a b=>.tuple [hP a,hP b]
 | .lit _ n es=>.au (.aL n es)
 | .row _ n es=>.au (.aL n es)
 | .wu b=>vs b
 | .wm _ _=>.top
 | .wh _=>.top
 | .Kj C l id n j _=>.tuple [.aL id,.au (.aL n (l.map C)),hP (j:Int)]
 | .Kk C l id n=>.tuple [.aL id,.au (.aL n (l.map C))]
 | .Kl C l id n j off _ _ _=>.tuple [.cn id j off,.au (.aL n (l.map C))]
 | .Km C l id n j off _ _=>.tuple [.cn id j off,.au (.aL n (l.map C))]
 | .mk C d m c _ _ _ _=>.tuple [hP (m:Int),hP (c:Int),.au (.ptr ((C d).map wv))]
 | .Kn j=>hP (j:Int)
 | .Ko C l n lo hi _ _=>.tuple [.au (.aL n (l.map C)),(match lo with|some k=>hP (k:Int)|none=>.top),(match hi with|some k=>hP (k:Int)|none=>.top)]
 | .Kp b lo hi _ _=>.tuple [vs b,(match lo with|some k=>hP (k:Int)|none=>.top),(match hi with|some k=>hP (k:Int)|none=>.top)]
 | .slot _ u _ _=>u
 | .Ea _ _ _=>.top
 | .Kq C l id n j off _ _=>.tuple [.cn id j off,.au (.aL n (l.map C))]
 | .Kr C l id n j off _ aw _=>.tuple [.cn id j off,.au (.aL n (l.map C)),.au (.ptr (C aw))]
 | .Ks=>.top
 | .D9 f p q args _ _=>.tuple (.fn (.func f) p q::args)
def rowOf(σ:bp)(id n:Nat):Option (TypeId × List (List ba)):=
 match aA σ id with
 |some (.row false t m es)=>match Nat.beq m n with
  |true=>some (t,es)
  |false=>none
 |_=>none
def k9(P:Program)(G:aY)(o:Oper)(s:aJ):Hint P G→Option (az × aJ)
 | .cast _ v _=>match pc P G o s with
  |some a=>some (a,s.put o.dst v)
  |none=>none
 | .idx C _ n _ e _=>match o.op with
  | .indexAddr t x i=>match iZ P t with
   |some cy=>match Nat.beq cy n with
    |true=>some (.tuple [aE G s x,aE G s i],s.put o.dst (.au (.ptr (C e))))
    |false=>none
   |none=>none
  |_=>none
 | .Kg _ _ u _=>match o.op with
  | .index t x i=>match isStr P t with
   |true=>some (.tuple [aE G s x,aE G s i],s.put o.dst (.au (.v (.int .u8 (u.toNat:Int)))))
   |false=>none
  |_=>none
 | .len _ l _=>match o.op with
  | .call c=>match c.callee,c.args.toList,c.argTypes.toList with
   | .builtin .len,[x],[t]=>match isSlice P t with
    |true=>some (aE G s x,s.put o.dst (hP (l.length:Int)))
    |false=>none
   |_,_,_=>none
  |_=>none
 | .call f _ r bE K _=>match o.op with
  | .call c=>match c.callee with
   | .value x=>match lH P f&&(ep (c.args.toList.map fun y=>lF s.heap (aE G s y))&&(fQ K r&&(j8 K bE&&Nat.ble s.base s.next)))with
    |true=>some (.tuple (aE G s x::c.args.toList.map fun y=>lF s.heap (aE G s y)),{s with heap:=j9 s.next bE++s.heap,next:=s.next+K}.put o.dst (n8 s.next r))
    |false=>none
   |_=>none
  |_=>none
 | .take C l n k _=>match o.op with
  | .slice t x none (some y) none=>match iZ P t with
   |some cy=>match Nat.beq cy n with
    |true=>some (.tuple [aE G s x,aE G s y],s.put o.dst (.au (.aL n ((l.take k).map C))))
    |false=>none
   |none=>none
  |_=>none
 | .Kh _ _ _ _=>none
 | .app C l m id e n bytes _=>match o.op with
  | .call c=>match c.callee,c.args.toList,c.argTypes.toList with
   | .builtin .append,[x,y],[t,bn]=>match oa P t with
    |some (aw,cy,b')=>match Nat.beq t bn&&(Nat.beq aw e&&(Nat.beq cy n&&(Nat.beq b' bytes&&(Nat.ble s.base id&&Nat.blt id s.next)))),rowOf s.heap id n with
     |true,some (a6,es)=>match Nat.beq a6 e with
      |true=>some (.tuple [aE G s x,.au (.aL n es),aE G s y],aJ.put ⟨dQ id s.cl,(id,.row false e n ((l++m).map C))::c8 id s.heap,s.next,s.base⟩ o.dst (.aL id))
      |false=>none
     |_,_=>none
    |none=>none
   |_,_,_=>none
  |_=>none
 | .Ki mx a b=>match o.op with
  | .call c=>match c.callee,c.args.toList,mx with
   | .builtin .min,[x,y],false=>some (.tuple [aE G s x,aE G s y],s.put o.dst (hP (if b<a then b else a)))
   | .builtin .max,[x,y],true=>some (.tuple [aE G s x,aE G s y],s.put o.dst (hP (if b>a then b else a)))
   |_,_,_=>none
  |_=>none
 | .lit e n es=>match o.op with
  | .buildSlice t len parts=>match og P G s t len parts.toList with
   |some (aw,cy,dX)=>match Nat.beq aw e&&Nat.beq cy n with
    |true=>some (.au (.aL n dX),s.put o.dst (.au (.aL n es)))
    |false=>none
   |none=>none
  |_=>none
 | .row e n es=>match o.op with
  | .buildSlice t len parts=>match og P G s t len parts.toList with
   |some (aw,cy,dX)=>match Nat.beq aw e&&(Nat.beq cy n&&Nat.ble s.base s.next)with
    |true=>some (.au (.aL n dX),{s with heap:=(s.next,.row false e n es)::s.heap,next:=s.next+1}.put o.dst (.aL s.next))
    |false=>none
   |none=>none
  |_=>none
 | .wu b=>match o.op with
  | .range t x=>match isStr P t&&Nat.ble s.base s.next with
   |true=>some (aE G s x,{s with heap:=(s.next,.bO (oc b 0))::s.heap,next:=s.next+1}.put o.dst (.ref s.next))
   |false=>none
  |_=>none
 | .Kj _ _ id n j _=>match o.op with
  | .indexAddr t x i=>match iZ P t,rowOf s.heap id n with
   |some cy,some (_,es)=>match Nat.beq cy n with
    |true=>some (.tuple [aE G s x,.au (.aL n es),aE G s i],s.put o.dst (.cn id j 0))
    |false=>none
   |_,_=>none
  |_=>none
 | .Kk _ l id n=>match o.op with
  | .call c=>match c.callee,c.args.toList,c.argTypes.toList with
   | .builtin .len,[x],[t]=>match isSlice P t,rowOf s.heap id n with
    |true,some (_,es)=>some (.tuple [aE G s x,.au (.aL n es)],s.put o.dst (hP (l.length:Int)))
    |_,_=>none
   |_,_,_=>none
  |_=>none
 | .Kl C _ id n _ off k e _=>match o.op with
  | .load t x=>match kZ P t,rowOf s.heap id n with
   |some bj,some (_,es)=>match Nat.beq bj k&&(Nat.ble 1 k&&Nat.ble k ((C e).drop off).length)with
    |true=>some (.tuple [aE G s x,.au (.aL n es)],s.put o.dst (.agg ((((C e).drop off).map az.au).take k)))
    |false=>none
   |_,_=>none
  |_=>none
 | .Km C _ id n _ off e _=>match o.op with
  | .load t x=>match scalar P t,rowOf s.heap id n,(C e).drop off with
   |true,some (_,es),v::_=>some (.tuple [aE G s x,.au (.aL n es)],s.put o.dst (.au v))
   |_,_,_=>none
  |_=>none
 | .Ko C l n lo hi _ _=>match o.op with
  | .slice t x wx wy none=>match iZ P t,wx.isSome==lo.isSome&&wy.isSome==hi.isSome with
   |some cy,true=>match Nat.beq cy n with
    |true=>some (.tuple [aE G s x,(match wx with|some y=>aE G s y|none=>.top),(match wy with|some y=>aE G s y|none=>.top)],s.put o.dst (.au (.aL n (((l.take (hi.getD l.length)).drop (lo.getD 0)).map C))))
    |false=>none
   |_,_=>none
  |_=>none
 | .Kp b lo hi _ _=>match o.op with
  | .slice t x wx wy none=>match isStr P t&&(wx.isSome==lo.isSome&&wy.isSome==hi.isSome)with
   |true=>some (.tuple [aE G s x,(match wx with|some y=>aE G s y|none=>.top),(match wy with|some y=>aE G s y|none=>.top)],s.put o.dst (vs (b.extract (lo.getD 0) (hi.getD b.size))))
   |false=>none
  |_=>none
 | .Kn j=>match o.op with
  | .index t x i=>match P.underlying t,aE G s x with
   |some (.array len e),.agg cs=>match cs[j]?,scalar P e&&(Nat.blt j len&&((P.info? e).map (·.size)==some 1))with
    |some v,true=>some (aE G s i,s.put o.dst v)
    |_,_=>none
   |_,_=>none
  |_=>none
 | .mk C d m _ e n bytes _=>match o.op with
  | .makeSlice t x y=>match oa P t,zeroCells P e with
   |some (aw,cy,b'),some zs=>match Nat.beq aw e&&(Nat.beq cy n&&(Nat.beq b' bytes&&(zs.all Value.oneCell'&&Nat.ble s.base s.next)))with
    |true=>some (.tuple [aE G s x,aE G s y,.au (.ptr (zs.map ba.v))],{s with heap:=(s.next,.row false e n ((List.replicate m d).map C))::s.heap,next:=s.next+1}.put o.dst (.aL s.next))
    |false=>none
   |_,_=>none
  |_=>none
 | .Kq _ _ id n j off _ _=>match o.op with
  | .fieldAddr t x f=>match qb P t f,rowOf s.heap id n with
   |some k,some (_,es)=>some (.tuple [aE G s x,.au (.aL n es)],s.put o.dst (.cn id j (off+k)))
   |_,_=>none
  |_=>none
 | .Kr C l id n j off e aw _=>match o.op with
  | .store t p x=>match rowOf s.heap id n,hN (ch (aE G s x))with
   |some (bt,es),some vs=>match((P.info? t).map (·.size)==some vs.length)&&Nat.ble (off+vs.length) n with
    |true=>some (.tuple [aE G s p,.au (.aL n es),.au (.ptr (dH (C e) off vs))],{s with heap:=eG s.heap id (.row false bt n ((l.set j aw).map C))}.put o.dst .top)
    |false=>none
   |_,_=>none
  |_=>none
 | .Ks=>match o.op with
  | .makeFunc (.func f) p q=>some (.top,s.put o.dst (.fn (.func f) (p.toList.map (aE G s)) (q.toList.map (aE G s))))
  |_=>none
 | .D9 f p q _ r _=>match o.op with
  | .call c=>match c.callee with
   | .value x=>match lH P f&&(ep (gW s.heap (p++c.args.toList.map (aE G s)++q))&&jc r)with
    |true=>some (.tuple (aE G s x::gW s.heap (p++c.args.toList.map (aE G s)++q)),s.put o.dst r)
    |false=>none
   |_=>none
  |_=>none
 |_=>none
theorem Kx{α:Type}{a:Array α}{x:α}(h:a.toList=[x]):a= #[x]:=by apply Array.ext';simpa using h
theorem wz{α:Type}{a:Array α}{x y:α}(h:a.toList=[x,y]):a= #[x,y]:=by apply Array.ext';simpa using h
end
end Go.aG
