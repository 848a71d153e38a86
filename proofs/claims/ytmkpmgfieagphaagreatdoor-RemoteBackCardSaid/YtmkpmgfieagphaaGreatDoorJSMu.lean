/- The AV calculus, part K: append, make, cuts of slices and strings, small builtins, conversions. Conditions: none. -/
import Derived.Test.YtmkpmgfieagphaaGreatDoorJSMj
import Derived.Maps.AppendAt
import Derived.Orders
import Derived.Laws.RangeString
import Derived.Laws.RangeAny
namespace Go.aM
open Go
def fr(σ:Heap)(n:Nat):aD→Option (List (List a6))
 | .av (.aO m es)=>if m=n then some es else none
 | .av (.v (.slice none 0 0))=>some []
 | .av (.li i l)=>if bZ i=n then some (l.map (cb i))else none
 | .aO id=>match aE σ id with
  |some (.row _ _ m es)=>if m=n then some es else none
  |_=>none
 |_=>none
section
variable {P:Program} {G:a8} {o:Oper} {s:aP}
theorem cP.elems{w:World}{ro:Nat→Prop}{n:Nat}{es:List (List a6)}{c:Value}(h:cP w ro (.aO n es) c):
 ∃b cap,c= .slice b es.length cap∧(∀e∈es,e.length=n)∧(b=none→es=[])∧∃f:Nat→Value,(∀a,b=some a→∀j,j<es.length*n→w.cell? (a.add j)=some (f j))∧∀j x,es.flatten[j]? =some x→cP w ro x (f j):=by
 cases h with
 |aO _ _ b cap f aa ae au aR bA=>
  refine⟨b,cap,rfl,au,fun ad=>?_,f,fun a aY j ag=>?_,bA⟩
  ·rcases Nat.eq_zero_or_pos es.length with h|h
   ·exact List.eq_nil_of_length_eq_zero h
   ·obtain⟨a,aY,_⟩:=aR h
    rw[ad]at aY;cases aY
  ·have ak:0<es.length:=by
    rcases Nat.eq_zero_or_pos es.length with h|h
    ·rw[h]at ag;simp at ag
    ·exact h
   obtain⟨bc,JX,hc⟩:=aR ak;rw[aY]at JX;simp only[Option.some.injEq]at JX;subst JX;exact(hc j ag).2
theorem wK{w:World}{ro:Nat→Prop}{σ:Heap}{β:Nat→Value}{N:Nat}(bb:hb w ro σ β N){x:aD}{c:Value}(h:bs w ro σ β N x c){n:Nat}{es:List (List a6)}(he:fr σ n x=some es):
 ∃b cap,c= .slice b es.length cap∧(∀e∈es,e.length=n)∧(b=none→es=[])∧∃f:Nat→Value,(∀a,b=some a→∀j,j<es.length*n→w.cell? (a.add j)=some (f j))∧∀j x,es.flatten[j]? =some x→cP w ro x (f j):=by
 cases h with
 |av x c hx=>
  cases x with
  |v y=>
   cases hx
   cases c with
   |slice a l h1=>
    cases a with
    |none=>
     cases l with
     |zero=>
      cases h1 with
      |zero=>
       simp[fr]at he;subst he;exact⟨none,0,rfl,by simp,fun _=>rfl,fun _=>undef,by simp,by simp⟩
      |succ=>simp[fr]at he
     |succ=>simp[fr]at he
    |some=>simp[fr]at he
   |_=>simp[fr]at he
  |ptr=>simp[fr]at he
  |mp=>simp[fr]at he
  |ep=>simp[fr]at he
  |li i l=>
   simp only[fr]at he
   split at he
   ·rename_i hm
    subst hm;simp only[Option.some.injEq]at he;subst he
    cases hx with
    |li _ _ _ hx=>exact hx.elems
   ·cases he
  |aO m dP=>
   simp only[fr]at he
   split at he
   ·rename_i hm
    subst hm;simp only[Option.some.injEq]at he;subst he;exact hx.elems
   ·cases he
 |aO id c ar ak=>
  simp only[fr]at he
  split at he
  ·rename_i z t m dP ah
   split at he
   ·rename_i hm
    subst hm;simp only[Option.some.injEq]at he;subst he;rw[ak z t _ _ ah]
    have dk:=bb.c7 id _ ah
    cases dk with
    |row _ _ _ xs aa ae au=>
     rcases aa.2 with⟨⟨b,aw,_⟩,aQ⟩|⟨g,cap,cur,aw,hc,zcy,hle,ig,dI,lF⟩
     ·have:dP=[]:=List.eq_nil_of_length_eq_zero aQ
      subst this;rw[aw];exact⟨b,0,rfl,by simp,fun _=>rfl,fun _=>undef,by simp,by simp⟩
     ·rw[aw]
      refine⟨_,_,rfl,ae,by simp,fun j=>xs.getD j undef,fun a aY j ag=>?_,au⟩
      simp only[Option.some.injEq]at aY;subst aY;rw[addLit,Nat.zero_add,cell_of_row w g j cur t (0,0) zcy]
      have hx:xs[j]? =cur[j]? :=by rw[←lF,List.getElem?_take,if_pos ag];simp
      have jO:j<xs.length:=by rw[aa.1];exact ag
      rw[←hx];simp[List.getD,List.getElem?_eq_getElem jO]
    |ga _ _ _ aa=>exact aa.elems
   ·cases he
  ·cases he
 |_=>simp[fr]at he
theorem Db{w:World}(t ty e:TypeId){i:TypeInfo}{z:Value}{n bytes:Nat}(aI:P.underlying t=some (.slice e))(hi:P.info? e=some i)(aQ:i.zero=some z)(iw:i.size=n)(js:i.bytes=bytes)(e9:z.cells.size=n)(hn:0<n)
 {v:Value}{len:Nat}{xs:List Value}(c1:ib w e n v len xs){b:Option Addr}{m cap:Nat}{news:List Value}(ar:news.length=m*n)(ad:b=none→m=0)(zcz: ∀a,b=some a→∀j u,news[j]? =some u→w.cell? (a.add j)=some u)
 (aa: ∀u∈news,u.oneCell'=true)(sL:len+m≤maxLen)(zD:(len+m)*bytes≤140737488355328):
 ∃bh w',(Builtin.append_ #[t,t] ty #[v,.slice b m cap]).run P w= .ok bh w'∧ib w' e n bh (len+m) (xs++news)∧w.grownBy w' (b4 v)∧(∀k,b4 bh=some k→b4 v=some k∨w.heap.size≤k):=by
 by_cases hm:m=0
 ·subst hm
  have rB:news=[]:=List.eq_nil_of_length_eq_zero (by simpa using ar)
  subst rB;refine⟨v,w,?_,by simpa using c1,World.grownBy.refl w _,fun k aj=>.inl aj⟩
  have Dc:(Builtin.firstCells n 0 (.slice b 0 cap)).run P w= .ok #[] w:=by
   cases b with
   |none=>simp[Builtin.firstCells]
   |some a=>simp[Builtin.firstCells,loadCells,loadCellsFrom]
  rcases c1.2 with⟨⟨c,rfl,_⟩,rfl⟩|⟨g,h1,cur,rfl,_,_,hle,_⟩
  ·cases c<;>simp[Builtin.append_,run_underlying aI,sizeOf,typeInfo,hi,iw,Builtin.lenOf,Dc,storeCells]
  ·simp[Builtin.append_,run_underlying aI,sizeOf,typeInfo,hi,iw,Builtin.lenOf,Dc,storeCells,hle]
 ·cases b with
  |none=>exact absurd (ad rfl) hm
  |some a=>
   have eW:=zcz a rfl
   have own:w.ownsRow 0 e n v len xs→_:=fun hA=>run_append_own_at (P:=P) w 0 t ty e i z n bytes aI hi aQ iw js e9 hn v len xs hA a m cap news ar eW aa sL zD (Nat.zero_le _)
   have fin:w.ownsRow 0 e n v len xs→v.ownBlock=b4 v→∃bh w',(Builtin.append_ #[t,t] ty #[v,.slice (some a) m cap]).run P w= .ok bh w'∧ib w' e n bh (len+m) (xs++news)∧w.grownBy w' (b4 v)∧(∀k,b4 bh=some k→b4 v=some k∨w.heap.size≤k):=by
    intro hA bg;obtain⟨bh,w',g1,g2,g3,_,g5⟩:=own hA;refine⟨bh,w',g1,.Da g2,bg ▸ g3,fun k aj=>?_⟩
    have eA:bh.ownBlock=some k:=by
     cases bh with
     |slice c l p=>
      cases c with
      |none=>simp[b4]at aj
      |some c=>
       simp only[b4]at aj
       split at aj
       ·cases aj
       ·simpa[Value.ownBlock]using aj
     |pointer c=>
      rcases g2.2 with⟨h,_⟩|⟨_,_,_,h,_⟩<;>cases h
     |map c=>
      rcases g2.2 with⟨h,_⟩|⟨_,_,_,h,_⟩<;>cases h
     |_=>simp[b4]at aj
    rcases g5 with h|h
    ·rw[h,bg]at eA;exact .inl eA
    ·rw[h]at eA;simp at eA;exact .inr (by omega)
   rcases c1.2 with⟨⟨c,rfl,_⟩,rfl⟩|⟨g,h1,cur,rfl,zE,ah,hle,ig,dI,lF⟩
   ·have hx:xs=[]:=List.eq_nil_of_length_eq_zero (by simpa using c1.1)
    subst hx
    cases c with
    |none=>exact fin (World.ownsRow_nil w 0 e n) rfl
    |some c=>
     have cS:=run_append_grow (P:=P) w t ty e i z aI hi aQ c 0 0 [] (by simp) (by simp) a m cap news (by rw[iw];exact ar) eW (by omega) (by simp only[maxLen]at sL;omega) (growslice_fits (by omega) (by rw[js];exact zD))
     have hA:=World.ownsRow_made (e:=e) (size:=n) w.drew (news.toArray++Builtin.zeroCells z.cells (grownCap w (0+m) 0 e-(0+m))) (grownCap w (0+m) 0 e) (base:=0) (Nat.zero_le _) (grownCap_le_maxLen w (0+m) 0 e sL) (by
      have:=grownCap_ge w (0+m) 0 e
      simp only[Array.size_append,List.size_toArray,size_zeroCells,e9,ar,←Nat.add_mul]
      congr 1
      omega)
     refine⟨_,_,cS,?_,⟨rfl,rfl,rfl,by simp,fun k aj _=>Go.RowKit.Below.heap_alloc w.drew _ k aj⟩,fun k aj=>?_⟩
     ·have h9:=grownCap_ge w (0+m) 0 e
      refine⟨by simp[ar],.inr ⟨w.heap.size,grownCap w (0+m) 0 e,_,rfl,by omega,heap_alloc_new w.drew _,h9,grownCap_le_maxLen w (0+m) 0 e sL,?_,?_⟩⟩
      ·simp only[Array.size_append,List.size_toArray,size_zeroCells,e9,ar,←Nat.add_mul,List.length_nil,Nat.zero_add]at h9⊢
       congr 1
       omega
      ·simp only[Array.toList_append,List.nil_append,Nat.zero_add]
       rw[←ar];exact List.take_left
     ·simp only[b4]at aj
      split at aj
      ·cases aj
      ·simp at aj;exact .inr (by omega)
   ·exact fin ⟨c1.1,.inr ⟨g,h1,cur,rfl,Nat.zero_le _,ah,hle,ig,dI,lF⟩⟩ (by simp[Value.ownBlock,b4,Nat.ne_of_gt zE])
def ql(P:Program)(t:TypeId):Option (Nat × Nat × Nat):=
 match P.underlying t with
 |some (.slice e)=>match P.info? e with
  |some i=>match i.zero with
   |some z=>if z.cells.size=i.size∧0<i.size then some (e,i.size,i.bytes)else none
   |none=>none
  |none=>none
 |_=>none
theorem p8{t e n bytes:Nat}(h:ql P t=some (e,n,bytes)): ∃i z,P.underlying t=some (.slice e)∧P.info? e=some i∧i.zero=some z∧i.size=n∧i.bytes=bytes∧z.cells.size=n∧0<n:=by
 unfold ql at h
 split at h
 ·rename_i ay hu
  split at h
  ·rename_i i hi
   split at h
   ·rename_i z aQ
    split at h
    ·rename_i hc
     simp only[Option.some.injEq,Prod.mk.injEq]at h;obtain⟨rfl,rfl,rfl⟩:=h;exact⟨i,z,hu,hi,aQ,rfl,rfl,hc.1,hc.2⟩
    ·cases h
   ·cases h
  ·cases h
 ·cases h
theorem zF{w:World}{ro:Nat→Prop}{n:Nat}{es:List (List a6)}(hn: ∀e∈es,e.length=n){f:Nat→Value}(hf: ∀j x,es.flatten[j]? =some x→cP w ro x (f j)):
 ((List.range (es.length*n)).map f).length=es.length*n∧(∀u∈(List.range (es.length*n)).map f,u.oneCell'=true)∧∀j x,es.flatten[j]? =some x→cP w ro x (((List.range (es.length*n)).map f).getD j undef):=by
 refine⟨by simp,fun u hu=>?_,fun j x ag=>?_⟩
 ·rw[List.mem_map]at hu
  obtain⟨j,ag,rfl⟩:=hu;rw[List.mem_range]at ag
  have ar:=j8 hn
  exact(hf j (es.flatten[j]'(by omega)) (by simp)).one
 ·have ar:=j8 hn
  have cL:=(List.getElem?_eq_some_iff.1 ag).1
  have:j<es.length*n:=by omega
  simpa[List.getD,this]using hf j x ag
theorem wL{w:World}{ro:Nat→Prop}{n:Nat}{es fs:List (List a6)}(hn: ∀e∈es,e.length=n){xs ys:List Value}(hx:xs.length=es.length*n)(aa: ∀j x,es.flatten[j]? =some x→cP w ro x (xs.getD j undef))
 (ae: ∀j x,fs.flatten[j]? =some x→cP w ro x (ys.getD j undef)): ∀j x,(es++fs).flatten[j]? =some x→cP w ro x ((xs++ys).getD j undef):=by
 intro j x ag
 rw[List.flatten_append]at ag
 have ar:=j8 hn
 by_cases h:j<es.flatten.length
 ·rw[List.getElem?_append_left h]at ag
  have:=aa j x ag
  rw[List.getD,List.getElem?_append_left (by omega)]
  exact this
 ·rw[List.getElem?_append_right (by omega)]at ag
  have:=ae _ x ag
  rw[List.getD,List.getElem?_append_right (by omega),hx,←ar]
  exact this
theorem zcA(x y:Operand)(t:TypeId)(an:o.op= .call {callee:=.builtin .append,args:=#[x,y],argTypes:=#[t,t]}){e n bytes:Nat}(aI:ql P t=some (e,n,bytes))
 {id:Nat}(hx:aL G s x= .aO id){es:List (List a6)}(bd:aE s.heap id=some (.row false e n es))(ad:s.base≤id)(bI:id<s.next)
 {fs:List (List a6)}(ax:fr s.heap n (aL G s y)=some fs)(bP:es.length+fs.length≤maxLen∧(es.length+fs.length)*bytes≤140737488355328):
 dQ P G o s (aP.put ⟨ed id s.cQ,(id,.row false e n (es++fs))::du id s.heap,s.next,s.base⟩ o.dst (.aO id)):=by
 intro E a w ⟨β,ro,af⟩ K Q hK
 obtain⟨i,z,hu,hi,aQ,iw,js,e9,hn⟩:=p8 aI
 obtain⟨b,cap,hc,mv,o4,f,h5,o5⟩:=wK af.heap (af.eval y) ax
 have dk:=af.heap.c7 id _ bd
 cases dk with
 |row _ _ _ xs c1 b5 eW=>
  have lJ:a.eval x=β id:=by
   have h:=af.eval x
   rw[hx]at h;generalize a.eval x=c at h
   cases h with
   |aO _ _ _ ak=>exact ak _ _ _ _ bd
  obtain⟨n1,o6,rC⟩:=zF mv o5
  obtain⟨bh,w',cp,kH,cS,bg⟩:=Db (P:=P) t o.type e hu hi aQ iw js e9 hn c1 (b:=b) (m:=fs.length) (cap:=cap) n1 (fun ad=>by rw[o4 ad];rfl)
   (fun bc aY j u ag=>by
    have cL:=(List.getElem?_eq_some_iff.1 ag).1
    rw[n1]at cL
    have aa:=h5 bc aY j cL
    simp[cL]at ag
    rw[aa,ag]) o6 bP.1 bP.2
  unfold Oper.wp;simp only[execOp,an,resolve,invoke,builtin,Sem.run_bind,Sem.run_pure,Result.andThen_ok,List.map_toArray,List.map_cons,List.map_nil,lJ,hc,cp]
  have jm: ∀k,k<w.heap.size→b4 (β id)≠some k→w'.heap[k]? =w.heap[k]? :=fun k aj b5=>cS.block k aj (fun e=>b5 e.symm)
  have cc: ∀k,ro k→w'.heap[k]? =w.heap[k]? :=fun k aj=>jm k (af.heap.lt k aj) fun bg=>af.heap.ff k aj ⟨id,_,bd,rfl,bg⟩
  refine hK _ _ ⟨gS β id bh,ro,c5.put (af.renew (w':=w') id ad bI bd (.row false e n (es++fs)) bh cS.os cS.tape cS.output cS.size jm bg rfl ?_) o.dst _ _ ?_⟩
  ·refine .row e n _ _ (by rw[dR,List.length_append];exact kH) (fun ay j9=>?_) (fun j x ag=>?_)
   ·rw[List.mem_append]at j9
    rcases j9 with h|h
    ·exact b5 _ h
    ·exact mv _ h
   ·exact(wL b5 c1.1 eW rC j x ag).keep cc fun _ h=>h
  ·exact .aO _ _ bI fun z bz cJ dP _=>(dR _ _ _).symm
theorem zcB(x y:Operand)(t:TypeId)(an:o.op= .call {callee:=.builtin .append,args:=#[x,y],argTypes:=#[t,t]}){e n bytes:Nat}(aI:ql P t=some (e,n,bytes))
 (hx:aL G s x= .av (.v (.slice none 0 0)))(ad:s.base≤s.next)
 {fs:List (List a6)}(ax:fr s.heap n (aL G s y)=some fs)(bP:fs.length≤maxLen∧fs.length*bytes≤140737488355328):
 dQ P G o s ({s with heap:=(s.next,.row false e n fs)::s.heap,next:=s.next+1}.put o.dst (.aO s.next)):=by
 intro E a w ⟨β,ro,af⟩ K Q hK
 obtain⟨i,z,hu,hi,aQ,iw,js,e9,hn⟩:=p8 aI
 obtain⟨b,cap,hc,mv,o4,f,h5,o5⟩:=wK af.heap (af.eval y) ax
 obtain⟨n1,o6,rC⟩:=zF mv o5
 obtain⟨bh,w',cp,kH,cS,bg⟩:=Db (P:=P) (w:=w) t o.type e hu hi aQ iw js e9 hn (v:=.slice none 0 0) (len:=0) (xs:=[]) ⟨by simp,.inl ⟨⟨none,rfl,fun _ h=>(by cases h)⟩,rfl⟩⟩ (b:=b) (m:=fs.length) (cap:=cap) n1 (fun ad=>by rw[o4 ad];rfl)
  (fun bc aY j u ag=>by
   have cL:=(List.getElem?_eq_some_iff.1 ag).1
   rw[n1]at cL
   have aa:=h5 bc aY j cL
   simp[cL]at ag
   rw[aa,ag]) o6 (by omega) (by rw[Nat.zero_add];exact bP.2)
 unfold Oper.wp
 simp only[execOp,an,resolve,invoke,builtin,Sem.run_bind,Sem.run_pure,Result.andThen_ok,List.map_toArray,List.map_cons,List.map_nil,af.ec hx,hc,cp]
 have jl:aE s.heap s.next=none:=by
  cases ah:aE s.heap s.next with
  |none=>rfl
  |some p=>have:=af.trans.new _ _ ah;omega
 have hw: ∀b,b<w.heap.size→w'.heap[b]? =w.heap[b]? :=fun b ad=>cS.block b ad (by simp[b4])
 have cc: ∀b,ro b→w'.heap[b]? =w.heap[b]? :=fun b ad=>hw b (af.heap.lt b ad)
 refine hK _ _ ⟨gS β s.next bh,ro,c5.put (af.new (w':=w') s.next jl ad (Nat.le_refl _) (.row false e n fs) bh cS.os cS.tape cS.output cS.size hw (fun b ad=>?_) rfl ?_) o.dst _ _ ?_⟩
 ·rcases bg b ad with h|h
  ·simp[b4]at h
  ·exact h
 ·refine .row e n _ _ (by rw[dR];simpa using kH) mv (fun j x ag=>(rC j x ag).keep cc fun _ h=>h)
 ·exact .aO _ _ (Nat.lt_succ_self _) fun z bz cJ dP _=>(dR _ _ _).symm
theorem Rh{cap len:Nat}{isS:Bool}{lo hi mx:Option Value}{l h m:Nat}(hm:(mx=none∧m=cap)∨∃k,mx=some (.int k (m:Int)))(bb:(hi=none∧mx=none∧h=len)∨∃k,hi=some (.int k (h:Int)))
 (ar:(lo=none∧l=0)∨∃k,lo=some (.int k (l:Int)))(aa:l≤h)(ae:h≤m)(au:m≤cap)(w:World):(Instr.sliceBounds isS len cap lo hi mx).run P w= .ok (l,h,m) w:=by
 rcases hm with⟨rfl,rfl⟩|⟨ziA,rfl⟩<;>rcases bb with⟨rfl,sM,rfl⟩|⟨ziB,rfl⟩<;>rcases ar with⟨rfl,rfl⟩|⟨Ri,rfl⟩
 all_goals first
  |(cases sM;done)
  |simp[Instr.sliceBounds,Instr.sliceBound,asIntOf,aa,ae,au]
theorem Dd (t : TypeId) (x : Operand) (lo hi : Option Operand) (an : o.op = .slice t x lo hi none) (aI : P.underlying t = some .string) {b : ByteArray} (hx : aL G s x = .av (.v (.string b))) {l h : Nat}
    (ar : (lo = none ∧ l = 0) ∨ ∃ y k, lo = some y ∧ aL G s y = .av (.v (.int k (l : Int)))) (bb : (hi = none ∧ h = b.size) ∨ ∃ y k, hi = some y ∧ aL G s y = .av (.v (.int k (h : Int)))) (aa : l ≤ h) (ae : h ≤ b.size) :
    cN P G o s (.av (.v (.string (b.extract l h)))) :=
  fun _ a w β ro af => by
    have ad := Rh (P := P) (cap := b.size) (len := b.size) (isS := false) (lo := lo.map a.eval) (hi := hi.map a.eval) (mx := none) (l := l) (h := h) (m := b.size) (.inl ⟨rfl, rfl⟩)
      (by rcases bb with ⟨rfl, rfl⟩ | ⟨y, k, rfl, ax⟩
          · exact .inl ⟨rfl, rfl, rfl⟩
          · exact .inr ⟨k, by simp [af.ec ax]⟩)
      (by rcases ar with ⟨rfl, rfl⟩ | ⟨y, k, rfl, ax⟩
          · exact .inl ⟨rfl, rfl⟩
          · exact .inr ⟨k, by simp [af.ec ax]⟩) aa ae (Nat.le_refl _) w
    exact ⟨_, by simp [execOp, an, af.ec hx, Instr.sliceAt, run_underlying aI, Instr.slice, ad], .fz rfl⟩
theorem Rj(src dst:TypeId)(x:Operand)(an:o.op= .convert src dst x)(ai:(P.underlying src).isSome=true){bk:IntKind}(hd:P.underlying dst=some (.int bk)){k:IntKind}{n:Int}(hx:aL G s x= .av (.v (.int k n))):
 cN P G o s (.av (.v (.int bk (bk.wrap n)))):=
 fun _ a w β ro af=>by
  cases hu:P.underlying src with
  |none=>simp[hu]at ai
  |some d=>exact⟨_,by simp[execOp,an,af.ec hx,convert,run_underlying hu,run_underlying hd,Conv.intToInt],.fz rfl⟩
theorem Rk(x y:Operand)(ts:Array TypeId)(an:o.op= .call {callee:=.builtin .min,args:=#[x,y],argTypes:=ts}){k:IntKind}{m n:Int}(hx:aL G s x= .av (.v (.int k m)))(ax:aL G s y= .av (.v (.int k n))):
 cN P G o s (.av (.v (.int k (if n<m then n else m)))):=
 fun _ a w β ro af=>⟨.int k (if n<m then n else m),by simp[execOp,an,resolve,invoke,builtin,af.ec hx,af.ec ax,run_min_int2],.fz rfl⟩
theorem Rl(x y:Operand)(ts:Array TypeId)(an:o.op= .call {callee:=.builtin .max,args:=#[x,y],argTypes:=ts}){k:IntKind}{m n:Int}(hx:aL G s x= .av (.v (.int k m)))(ax:aL G s y= .av (.v (.int k n))):
 cN P G o s (.av (.v (.int k (if n>m then n else m)))):=
 fun _ a w β ro af=>⟨.int k (if n>m then n else m),by simp[execOp,an,resolve,invoke,builtin,af.ec hx,af.ec ax,run_max_int2],.fz rfl⟩
theorem zcC(cw ty:TypeId)(x y:Operand)(an:o.op= .binOp .add cw x y ty){u v:ByteArray}(hx:aL G s x= .av (.v (.string u)))(ax:aL G s y= .av (.v (.string v)))(bP:u.size+v.size≤9223372036854775807):
 cN P G o s (.av (.v (.string (u++v)))):=
 oZ .add cw ty x y an hx ax (by
  simp only[ka]
  rw[if_neg (by simp only[IntKind.max_i64];omega)])
end
end Go.aM
namespace Go.aM
open Go
def qm(s:aP)(o:Oper)(v:aD):Option aP:=some (s.put o.dst v)
def isStr(P:Program)(t:TypeId):Bool:=
 match P.underlying t with
 |some .string=>true
 |_=>false
def De(P:Program)(t:TypeId):Bool:=
 match P.underlying t with
 |some .bool=>true
 |_=>false
theorem uH{P:Program}{t:TypeId}(h:isStr P t=true):P.underlying t=some .string:=by
 unfold isStr at h
 split at h
 ·assumption
 ·cases h
theorem Df{P:Program}{t:TypeId}(h:De P t=true):P.underlying t=some .bool:=by
 unfold De at h
 split at h
 ·assumption
 ·cases h
def JY(P:Program)(G:a8)(b:Builtin)(xs:List Operand)(ts:List TypeId)(s:aP):Option aD:=
 match b,xs,ts with
 | .len,[x],[t]=>match k7 s.heap (aL G s x)with
  |some m=>if isSlice P t then some (.av (.v (.int .i64 (m:Int))))else none
  |none=>match aL G s x with
   | .av (.v (.string b))=>if isStr P t then some (.av (.v (.int .i64 (b.size:Int))))else none
   |_=>match C7 P t with
    |some n=>some (.av (.v (.int .i64 (n:Int))))
    |none=>none
 | .min,[x,y],_=>match aL G s x,aL G s y with
  | .av (.v (.int k m)),.av (.v (.int bk n))=>if k=bk then some (.av (.v (.int k (if n<m then n else m))))else none
  |_,_=>none
 | .max,[x,y],_=>match aL G s x,aL G s y with
  | .av (.v (.int k m)),.av (.v (.int bk n))=>if k=bk then some (.av (.v (.int k (if n>m then n else m))))else none
  |_,_=>none
 |_,_,_=>none
def rD(P:Program)(G:a8)(o:Oper)(s:aP):Option aD:=
 match o.op with
 | .move x=>some (aL G s x)
 | .assign x=>some (aL G s x)
 | .load t x=>match fl s.heap (aL G s x)with
  |some cs=>match mi P t with
   |some n=>if n≤cs.length∧0<n then some (.agg (cs.take n))else none
   |none=>if scalar P t then match cs with
    |y::_=>some y
    |[]=>none
    else none
  |none=>none
 | .fieldAddr t x f=>match sJ P t f,jP s.heap (aL G s x)with
  |some k,true=>some (rf k (aL G s x))
  |_,_=>none
 | .nilCheck x=>match jP s.heap (aL G s x)with
  |true=>some (aL G s x)
  |false=>none
 | .field t x f=>match aL G s x,wI P t f with
  | .agg cs,some (off,none)=>match cs[off]? with
   |some v=>some v
   |none=>none
  | .agg cs,some (off,some n)=>if off+n≤cs.length then some (.agg ((cs.drop off).take n))else none
  |_,_=>none
 | .indexAddr t x i=>match aL G s i with
  | .av (.v (.int _ (.ofNat j)))=>match kc P t with
   |some n=>match mq s.heap n j (aL G s x)with
    |some p=>some p
    |none=>none
   |none=>match uF P t,fl s.heap (aL G s x)with
    |some (len,n),some _=>if j<len then match iK (j*n) (aL G s x)with
     |some p=>some p
     |none=>none
     else none
    |_,_=>none
  |_=>none
 | .index t x i=>match aL G s i,aL G s x with
  | .av (.v (.int _ (.ofNat j))),.av (.v (.string b))=>if isStr P t then match b.data.toList[j]? with
   |some u=>some (.av (.v (.int .u8 (u.toNat:Int))))
   |none=>none
   else none
  |_,_=>none
 | .binOp op cw x y _=>match aL G s x,aL G s y with
  | .av (.v (.bool u)),.av (.v (.bool v))=>if De P cw then match op with
   | .eql=>some (.av (.v (.bool (u==v))))
   | .neq=>some (.av (.v (.bool (!(u==v)))))
   |_=>none
   else none
  | .av (.v u),.av (.v v)=>match ka op u v with
   |some c=>some (.av (.v c))
   |none=>none
  | .agg cs,.agg ds=>match m6 P cw,hB cs,hB ds with
   |some fs,some xs,some ys=>match zp P 0 fs xs ys with
    |some b=>match op with
     | .eql=>some (.av (.v (.bool b)))
     | .neq=>some (.av (.v (.bool (!b))))
     |_=>none
    |none=>none
   |_,_,_=>none
  |_,_=>none
 | .unOp op _ x=>match op,aL G s x with
  | .not,.av (.v (.bool b))=>some (.av (.v (.bool (!b))))
  | .neg,.av (.v (.int k n))=>some (.av (.v (.int k (k.wrap (0-n)))))
  |_,_=>none
 | .pick c x y=>match aL G s c with
  | .av (.v (.bool true))=>some (aL G s x)
  | .av (.v (.bool false))=>some (aL G s y)
  |_=>none
 | .extract x i=>match aL G s x with
  | .tuple cs=>match cs[i]? with
   |some v=>some v
   |none=>none
  |_=>none
 | .build t parts=>match places P t,zeroCells P t with
  |some pl,some zs=>if zs.all Value.oneCell'∧(parts.toList.map fun p=>(p.1,aL G s p.2)).all (fun p=>(cR p.2).all (eE s.heap))then
   match kd pl (zs.map fun z=>.av (.v z)) (parts.toList.map fun p=>(p.1,aL G s p.2))with
   |some ds=>some (.agg ds)
   |none=>none
   else none
  |_,_=>none
 | .call c=>match c.callee with
  | .builtin b=>JY P G b c.args.toList c.argTypes.toList s
  |_=>none
 | .convert src dst x=>match aL G s x,P.underlying dst with
  | .av (.v (.int _ n)),some (.int bk)=>if(P.underlying src).isSome then some (.av (.v (.int bk (bk.wrap n))))else none
  |_,_=>none
 |_=>none
def JZ(P:Program)(G:a8)(o:Oper)(s:aP):Option aP:=
 match rD P G o s with
 |some v=>qm s o v
 |none=>match o.op with
  | .store t p x=>match aL G s p with
   | .ptr id off=>match aE s.heap id with
    |some (.box bt cs)=>if(cR (aL G s x)).all (eE s.heap)∧(P.info? t).map (·.size)=some (cR (aL G s x)).length∧off+(cR (aL G s x)).length≤cs.length
     then qm {s with heap:=eO s.heap id (.box bt (ei cs off (cR (aL G s x))))} o .top else none
    |_=>none
   | .cW id i off=>match aE s.heap id with
    |some (.row false bt n es)=>match es[i]?,iL (cR (aL G s x))with
     |some e,some vs=>if(P.info? t).map (·.size)=some vs.length∧off+vs.length≤n then qm {s with heap:=eO s.heap id (.row false bt n (es.set i (ei e off vs)))} o .top else none
     |_,_=>none
    |_=>none
   |_=>none
  | .alloc t=>match zeroCells P t with
   |some zs=>if zs.all Value.oneCell'∧s.base≤s.next then qm {s with heap:=(s.next,.box t (zs.map fun z=>.av (.v z)))::s.heap,next:=s.next+1} o (.ptr s.next 0)else none
   |none=>none
  | .box t x=>if(cR (aL G s x)).all (eE s.heap)∧s.base≤s.next then qm {s with heap:=(s.next,.box t (cR (aL G s x)))::s.heap,next:=s.next+1} o (.ptr s.next 0)else none
  |_=>none
section
variable {P:Program} {G:a8} {o:Oper} {s bq:aP} {v:aD}
theorem zcD{b:Builtin}{args:Array Operand}{ts:Array TypeId}(an:o.op= .call {callee:=.builtin b,args,argTypes:=ts})(h:JY P G b args.toList ts.toList s=some v):cN P G o s v:=by
 unfold JY at h
 split at h
 ·rename_i x t aY zcE
  have aC:args= #[x]:=by apply Array.ext';simpa using aY
  have bf:ts= #[t]:=by apply Array.ext';simpa using zcE
  subst aC bf
  split at h
  ·rename_i m hm
   split at h
   ·rename_i aI
    simp only[Option.some.injEq]at h;subst h;exact JR x t an aI hm
   ·cases h
  ·split at h
   ·rename_i b hx
    split at h
    ·rename_i aI
     simp only[Option.some.injEq]at h;subst h;exact JS x t an (uH aI) hx
    ·cases h
   ·split at h
    ·rename_i n hn
     simp only[Option.some.injEq]at h;subst h;exact Q3 x t an hn
    ·cases h
 ·rename_i x y aY
  have aC:args= #[x,y]:=by apply Array.ext';simpa using aY
  subst aC
  split at h
  ·rename_i k m bk n hx ax
   split at h
   ·rename_i aj
    subst aj;simp only[Option.some.injEq]at h;subst h;exact Rk x y ts an hx ax
   ·cases h
  ·cases h
 ·rename_i x y aY
  have aC:args= #[x,y]:=by apply Array.ext';simpa using aY
  subst aC
  split at h
  ·rename_i k m bk n hx ax
   split at h
   ·rename_i aj
    subst aj;simp only[Option.some.injEq]at h;subst h;exact Rl x y ts an hx ax
   ·cases h
  ·cases h
 ·cases h
theorem J0(h:rD P G o s=some v):cN P G o s v:=by
 unfold rD at h
 split at h
 ·rename_i x an
  simp only[Option.some.injEq]at h;subst h;exact Qn x an
 ·rename_i x an
  simp only[Option.some.injEq]at h;subst h;exact Qo x an
 ·rename_i t x an
  split at h
  ·rename_i cs hc
   split at h
   ·rename_i n hn
    split at h
    ·rename_i ar
     simp only[Option.some.injEq]at h;subst h;exact Qp t x an hn hc ar.1 ar.2
    ·cases h
   ·split at h
    ·rename_i ai
     split at h
     ·simp only[Option.some.injEq]at h;subst h;exact Jx t x an ai hc
     ·cases h
    ·cases h
  ·cases h
 ·rename_i t x f an
  split at h
  ·rename_i k aj hc
   simp only[Option.some.injEq]at h;subst h;exact Qs t x f an aj hc
  ·cases h
 ·rename_i x an
  split at h
  ·rename_i hc
   simp only[Option.some.injEq]at h;subst h;exact Qt x an hc
  ·cases h
 ·rename_i t x f an
  split at h
  ·rename_i cs off hx aI
   split at h
   ·rename_i v aw
    simp only[Option.some.injEq]at h;subst h;exact Q7 t x f an aI hx aw
   ·cases h
  ·rename_i cs off n hx aI
   split at h
   ·rename_i hn
    simp only[Option.some.injEq]at h;subst h;exact Q8 t x f an aI hx hn
   ·cases h
  ·cases h
 ·rename_i t x i an
  split at h
  ·rename_i k j hi
   split at h
   ·rename_i n hn
    split at h
    ·rename_i p ak
     simp only[Option.some.injEq]at h;subst h;exact Q5 t x i an hn hi ak
    ·cases h
   ·split at h
    ·rename_i len n cs aI dI
     split at h
     ·rename_i ag
      split at h
      ·rename_i p ak
       simp only[Option.some.injEq]at h;subst h;exact JT t x i an aI hi ag dI ak
      ·cases h
     ·cases h
    ·cases h
  ·cases h
 ·rename_i t x i an
  split at h
  ·rename_i k j b hi hx
   split at h
   ·rename_i aI
    split at h
    ·rename_i u hu
     simp only[Option.some.injEq]at h;subst h;exact Q6 t x i an (uH aI) hi hx hu
    ·cases h
   ·cases h
  ·cases h
 ·rename_i op cw x y ty an
  split at h
  ·rename_i u v hx ax
   split at h
   ·rename_i aI
    split at h
    ·simp only[Option.some.injEq]at h;subst h;exact QJ cw ty x y an (Df aI) hx ax
    ·simp only[Option.some.injEq]at h;subst h;exact QK cw ty x y an (Df aI) hx ax
    ·cases h
   ·cases h
  ·rename_i u v _ hx ax
   split at h
   ·rename_i c hc
    simp only[Option.some.injEq]at h;subst h;exact oZ _ cw ty x y an hx ax hc
   ·cases h
  ·rename_i cs ds hx ax
   split at h
   ·rename_i fs xs ys hf nV mm
    split at h
    ·rename_i b ad
     split at h
     ·simp only[Option.some.injEq]at h;subst h;exact QQ cw ty x y an hf hx ax nV mm ad
     ·simp only[Option.some.injEq]at h;subst h;exact QR cw ty x y an hf hx ax nV mm ad
     ·cases h
    ·cases h
   ·cases h
  ·cases h
 ·rename_i op t x an
  split at h
  ·rename_i b hx
   simp only[Option.some.injEq]at h;subst h;exact QS t x an hx
  ·rename_i k n hx
   simp only[Option.some.injEq]at h;subst h;exact QT t x an hx
  ·cases h
 ·rename_i c x y an
  split at h
  ·rename_i hc
   simp only[Option.some.injEq]at h;subst h;exact zr c x y an hc rfl
  ·rename_i hc
   simp only[Option.some.injEq]at h;subst h;exact zr c x y an hc rfl
  ·cases h
 ·rename_i x i an
  split at h
  ·rename_i cs hx
   split at h
   ·rename_i v aw
    simp only[Option.some.injEq]at h;subst h;exact QU x i an hx aw
   ·cases h
  ·cases h
 ·rename_i t parts an
  split at h
  ·rename_i pl zs ak aQ
   split at h
   ·rename_i hc
    split at h
    ·rename_i ds hf
     simp only[Option.some.injEq]at h;subst h;exact Rc t parts an ak aQ hc.1 rfl hc.2 hf
    ·cases h
   ·cases h
  ·cases h
 ·rename_i c an
  split at h
  ·rename_i b ad
   obtain⟨callee,args,ts⟩:=c;simp only at ad h;subst ad;exact zcD an h
  ·cases h
 ·rename_i src dst x an
  split at h
  ·rename_i k n bk hx hd
   split at h
   ·rename_i ai
    simp only[Option.some.injEq]at h;subst h;exact Rj src dst x an ai hd hx
   ·cases h
  ·cases h
 ·cases h
theorem zcF(h:JZ P G o s=some bq):dQ P G o s bq:=by
 unfold JZ at h
 split at h
 ·rename_i v aw
  simp only[qm,Option.some.injEq]at h;subst h;exact(J0 aw).step
 ·split at h
  ·rename_i t p x an
   split at h
   ·rename_i id off ak
    split at h
    ·rename_i bt cs ah
     split at h
     ·rename_i hc
      simp only[qm,Option.some.injEq]at h;subst h;exact QC t p x an ak ah rfl hc.1 hc.2.1 hc.2.2
     ·cases h
    ·cases h
   ·rename_i id i off ak
    split at h
    ·rename_i bt n es ah
     split at h
     ·rename_i e vs he aw
      split at h
      ·rename_i hc
       simp only[qm,Option.some.injEq]at h;subst h;exact QE t p x an ak ah he aw hc.1 hc.2
      ·cases h
     ·cases h
    ·cases h
   ·cases h
  ·rename_i t an
   split at h
   ·rename_i zs aQ
    split at h
    ·rename_i hc
     simp only[qm,Option.some.injEq]at h;subst h;exact QA t an hc.2 aQ hc.1
    ·cases h
   ·cases h
  ·rename_i t x an
   split at h
   ·rename_i hc
    simp only[qm,Option.some.injEq]at h;subst h;exact Qy t x an hc.2 hc.1
   ·cases h
  ·cases h
def dN(ops:Array Oper)(s:aP)(o:Oper):Option Bool:=
 match o.guard with
 |none=>some true
 |some (j,b)=>match mn ops j with
  |some d=>match s.cQ[d]? with
   |some (.av (.v (.bool c)))=>some (match b,c with
    |true,true=>true
    |false,false=>true
    |_,_=>false)
   |some (.tuple _)=>some false
   |_=>none
  |none=>none
def wM(P:Program)(G:a8)(ops:Array Oper):Nat→List Oper→aP→Option aP
 |0,_,s=>some s
 |n+1,o::r,s=>match dN ops s o with
  |some true=>match JZ P G o s with
   |some bq=>wM P G ops n r bq
   |none=>none
  |some false=>wM P G ops n r (s.put o.dst (.tuple []))
  |none=>none
 |_+1,[],_=>none
variable {Q:Exit→aP→Prop}
theorem cv.step{ops:Array Oper}{rest:List Oper}(ah:dN ops s o=some true)(h:dQ P G o s bq)(k:cv P G ops Q rest bq):cv P G ops Q (o::rest) s:=by
 unfold dN at ah
 split at ah
 ·rename_i hn
  exact cv.cons hn h k
 ·rename_i j b hn
  split at ah
  ·rename_i d hd
   split at ah
   ·rename_i c ai
    simp only[Option.some.injEq]at ah
    have zG:b=c:=by cases b<;>cases c<;>simp_all
    subst zG;exact cv.guarded hn hd ai h k
   ·cases ah
   ·cases ah
  ·cases ah
theorem cv.pass{ops:Array Oper}{rest:List Oper}(ah:dN ops s o=some false)(k:cv P G ops Q rest (s.put o.dst (.tuple []))):cv P G ops Q (o::rest) s:=by
 unfold dN at ah
 split at ah
 ·cases ah
 ·rename_i j b hn
  split at ah
  ·rename_i d hd
   split at ah
   ·rename_i c ai
    simp only[Option.some.injEq]at ah
    have zG:c= !b:=by cases b<;>cases c<;>simp_all
    subst zG;exact cv.zce hn hd ai k
   ·rename_i cs ai
    exact cv.zcf hn hd ai k
   ·cases ah
  ·cases ah
theorem cv.run{ops:Array Oper}: ∀(n:Nat) {l:List Oper} {s bq:aP},wM P G ops n l s=some bq→cv P G ops Q (l.drop n) bq→cv P G ops Q l s
 |0,l,s,bq,h,k=>by
  simp[wM]at h;subst h;exact k
 |n+1,[],s,bq,h,k=>by simp[wM]at h
 |n+1,o::r,s,bq,h,k=>by
  simp only[wM]at h
  split at h
  ·rename_i ah
   split at h
   ·rename_i s1 aa
    exact cv.step ah (zcF aa) (cv.run n h k)
   ·cases h
  ·rename_i ah
   exact cv.pass ah (cv.run n h k)
  ·cases h
end
end Go.aM
namespace Go.aM
open Go
abbrev iM(n:Int):aD:=.av (.v (.int .i64 n))
abbrev tO(b:Bool):aD:=.av (.v (.bool b))
abbrev vs(s:ByteArray):aD:=.av (.v (.string s))
abbrev zcG(l:List a6):List aD:=l.map .av
def nb:Nat→Nat→List (Nat × aD)→List aD
 |_,0,_=>[]
 |i,k+1,[]=>.top::nb (i+1) k []
 |i,k+1,(j,v)::r=>if i=j then v::nb (i+1) k r else .top::nb (i+1) k ((j,v)::r)
theorem pQ(n:Int)(aa: -9223372036854775808≤n)(ae:n≤9223372036854775807):IntKind.i64.wrap n=n:=by
 rw[IntKind.wrap_i64];omega
def mw(σ:Heap):Heap→Heap
 |[]=>[]
 |(k,.box t cs)::r=>(k,.box t (kF σ cs))::mw σ r
 |(k,.row z t n es)::r=>(k,.row z t n es)::mw σ r
 |(k,.bM bN)::r=>(k,.bM bN)::mw σ r
def kI(σ:Heap):eh→eh
 | .box t cs=>.box t (kF σ cs)
 | .row z t n es=>.row z t n es
 | .bM bN=>.bM bN
theorem qn(σ:Heap): ∀(h:Heap) (k:Nat),aE (mw σ h) k=(aE h k).map (kI σ)
 |[],k=>by simp[mw,aE]
 |(j,.box t cs)::r,k=>by
  by_cases ag:j=k
  ·simp[mw,aE,ag,kI]
  ·simp[mw,aE,ag,qn σ r k]
 |(j,.row z t n es)::r,k=>by
  by_cases ag:j=k
  ·simp[mw,aE,ag,kI]
  ·simp[mw,aE,ag,qn σ r k]
 |(j,.bM bN)::r,k=>by
  by_cases ag:j=k
  ·simp[mw,aE,ag,kI]
  ·simp[mw,aE,ag,qn σ r k]
theorem ib.J1{w:World}{ro:Nat→Prop}{t:TypeId}{n:Nat}{v:Value}{es:List (List a6)}{xs:List Value}(h:ib w t n v es.length xs)(hn: ∀e∈es,e.length=n)(hc: ∀j x,es.flatten[j]? =some x→cP w ro x (xs.getD j undef))
 (cc: ∀b,b4 v=some b→ro b):cP w ro (.aO n es) v:=by
 rcases h.2 with⟨⟨b,aw,_⟩,aQ⟩|⟨g,cap,cur,aw,ak,ah,hle,ig,dI,lF⟩
 ·subst aw
  have:es=[]:=List.eq_nil_of_length_eq_zero aQ
  subst this;exact .aO n [] b 0 (fun _=>undef) (by simp) (Nat.zero_le _) (by simp) (by simp) (by simp)
 ·subst aw
  refine .aO n es _ cap (fun j=>xs.getD j undef) hle ig hn (fun _=>⟨⟨g,0,none⟩,rfl,fun j ag=>⟨cc g (by simp[b4,Nat.ne_of_gt ak]),?_⟩⟩) hc
  rw[addLit,Nat.zero_add,cell_of_row w g j cur t (0,0) ah]
  have hx:xs[j]? =cur[j]? :=by rw[←lF,List.getElem?_take,if_pos ag];simp
  have jO:j<xs.length:=by rw[h.1];exact ag
  rw[←hx];simp[List.getD,List.getElem?_eq_getElem jO]
def nc(s:aP)(id:Nat):aP:=
 match aE s.heap id with
 |some (.row false t n es)=>⟨kF [(id,.row true t n es)] s.cQ,mw [(id,.row true t n es)] (gl s.heap id),s.next,s.base⟩
 |_=>s
theorem cm.nc(s:aP)(id:Nat):cm s (nc s id):=by
 unfold Go.aM.nc
 split
 ·rename_i t n es bd
  intro E G a w ⟨β,ro,h⟩
  have dk:=h.heap.c7 id _ bd
  cases dk with
  |row _ _ _ xs c1 hn hc=>

   have Dg:cP w (fun b=>ro b∨b4 (β id)=some b) (.aO n es) (β id):=c1.J1 hn (fun j x ag=>(hc j x ag).keep (fun _ _=>rfl) fun _ h=>.inl h) fun b ad=>.inr ad
   have gA: ∀k o,aE (gl s.heap id) k=some o→aE s.heap k=some o∧k≠id:=by
    intro k o aj;rw[zg]at aj
    split at aj
    ·cases aj
    ·rename_i b5
     exact⟨aj,fun e=>b5 e.symm⟩
   have view: ∀x c,bs w ro s.heap β s.next x c→bs w (fun b=>ro b∨b4 (β id)=some b) (mw [(id,.row true t n es)] (gl s.heap id)) β s.next (hN [(id,.row true t n es)] x) c:=by
    intro x c hx
    induction hx with
    |av x c hx=>exact .av x c (hx.keep (fun _ _=>rfl) fun _ h=>.inl h)
    |agg cs c aa _ a1=>
     refine .agg _ c (by rw[nW];exact aa) fun j x ag=>?_
     obtain⟨y,ax,rfl⟩:=o1 _ ag;exact a1 j y ax
    |tuple cs c aa _ a1=>
     refine .tuple _ c (by rw[nW];exact aa) fun j x ag=>?_
     obtain⟨y,ax,rfl⟩:=o1 _ ag;exact a1 j y ax
    |ptr k off c ar ak=>
     refine .ptr k off c ar fun bz cs' ah=>?_
     rw[qn]at ah
     cases aj:aE (gl s.heap id) k with
     |none=>simp[aj]at ah
     |some p=>
      cases p with
      |box t2 zH=>exact ak t2 zH (gA k _ aj).1
      |row=>simp[aj,kI]at ah
      |bM=>simp[aj,kI]at ah
    |dA k off c ar ak=>
     refine .dA k off c ar fun bz cs' ah=>?_
     rw[qn]at ah
     cases aj:aE (gl s.heap id) k with
     |none=>simp[aj]at ah
     |some p=>
      cases p with
      |box t2 zH=>exact ak t2 zH (gA k _ aj).1
      |row=>simp[aj,kI]at ah
      |bM=>simp[aj,kI]at ah
    |cW k i off c ar ak=>
     refine .cW k i off c ar fun iv bz cJ dP ah=>?_
     rw[qn]at ah
     cases aj:aE (gl s.heap id) k with
     |none=>simp[aj]at ah
     |some p=>
      cases p with
      |box t2 zH=>simp[aj,kI]at ah
      |bM=>simp[aj,kI]at ah
      |row z2 t2 gw zcH=>
       simp only[aj,kI,Option.map_some,Option.some.injEq,eh.row.injEq]at ah;obtain⟨rfl,rfl,rfl,rfl⟩:=ah;exact ak _ _ _ _ (gA k _ aj).1
    |aO k c ar ak=>
     simp only[hN,aE]
     by_cases aj:id=k
     ·subst aj
      simp only[if_true];rw[ak _ _ _ _ bd];exact .av _ _ Dg
     ·simp only[if_neg aj]
      refine .aO k c ar fun iv bz cJ dP ah=>?_
      rw[qn]at ah
      cases eA:aE (gl s.heap id) k with
      |none=>simp[eA]at ah
      |some p=>
       cases p with
       |box t2 zH=>simp[eA,kI]at ah
       |bM=>simp[eA,kI]at ah
       |row z2 t2 gw zcH=>exact ak _ _ _ _ (gA k _ eA).1
    |fn f p q c d aa ae _ _ hh hj=>
     refine .fn f _ _ c d (by rw[nW];exact aa) (by rw[nW];exact ae) (fun j x ag=>?_) (fun j x ag=>?_)
     ·obtain⟨y,ax,rfl⟩:=o1 _ ag
      exact hh j y ax
     ·obtain⟨y,ax,rfl⟩:=o1 _ ag
      exact hj j y ax
    |ref k c ar ak=>
     refine .ref k c ar fun bN ah=>?_
     rw[qn]at ah
     cases aj:aE (gl s.heap id) k with
     |none=>simp[aj]at ah
     |some p=>
      cases p with
      |box=>simp[aj,kI]at ah
      |row=>simp[aj,kI]at ah
      |bM lE=>exact ak lE (gA k _ aj).1
    |top c=>exact .top c
   have back: ∀k o,aE (mw [(id,.row true t n es)] (gl s.heap id)) k=some o→∃p,aE s.heap k=some p∧k≠id∧p.live=o.live∧o=kI [(id,.row true t n es)] p:=by
    intro k o ah;rw[qn]at ah
    cases aj:aE (gl s.heap id) k with
    |none=>simp[aj]at ah
    |some p=>
     obtain⟨aa,ae⟩:=gA k p aj;refine⟨p,aa,ae,?_,?_⟩
     ·simp[aj]at ah
      subst ah
      cases p<;>rfl
     ·simp[aj]at ah
      exact ah.symm
   refine⟨β,fun b=>ro b∨b4 (β id)=some b,h.defers,by simpa[nW]using h.size,fun i x hx=>?_,⟨fun k o ah=>?_,fun k bk o cz b ah dV ar sN ad gz=>?_,fun b ad=>?_,fun b ad=>?_⟩,
    h.ic.keep (fun _ _=>rfl) fun _ h=>.inl h,?_,h.base⟩
   ·obtain⟨y,ax,rfl⟩:=o1 _ hx
    exact view _ _ (h.slot i y ax)
   ·obtain⟨p,aa,ae,au,rfl⟩:=back k o ah
    have an:=h.heap.c7 k p aa
    cases an with
    |box bz cs' b arr aC bf cg ek=>
     refine .box bz _ b arr aC bf (by rw[nW];exact cg) fun j x ag=>?_
     obtain⟨y,ax,rfl⟩:=o1 _ ag;exact view _ _ (ek j y ax)
    |row bz cJ dP JD aC bf cg=>exact .row bz cJ dP JD aC bf fun j x ag=>(cg j x ag).keep (fun _ _=>rfl) fun _ h=>.inl h
    |ga bz cJ dP aC=>exact .ga bz cJ dP (aC.keep (fun _ _=>rfl) fun _ h=>.inl h)
    |bM bN b o aC bf cg=>exact .bM bN b o aC bf (bN.mono _ _ _ _ (fun x c h=>h.keep (fun _ _=>rfl) fun _ h=>.inl h) cg)
   ·obtain⟨p,aa,_,au,_⟩:=back k o ah
    obtain⟨fV,sO,_,zcI,_⟩:=back bk cz dV;exact h.heap.inj k bk p fV b aa sO (au.trans ar) (zcI.trans sN) ad gz
   ·rintro⟨k,o,ah,ar,bg⟩
    obtain⟨p,aa,ae,au,_⟩:=back k o ah
    rcases ad with ad|ad
    ·exact h.heap.ff b ad ⟨k,p,aa,au.trans ar,bg⟩
    ·exact ae (h.heap.inj k id p _ b aa bd (au.trans ar) rfl bg ad)
   ·rcases ad with ad|ad
    ·exact h.heap.lt b ad
    ·exact(c1.hJ ad).1
   ·have bz:=h.trans
    refine⟨bz.os,bz.tape,bz.output,bz.size,bz.frame,fun b ad=>?_,fun b ad=>.inl (bz.j7 b ad),?_,fun k aj o ah=>?_,fun k o ah=>?_,bz.le⟩
    ·rcases ad with ad|ad
     ·exact bz.jk b ad
     ·rcases bz.hg b ⟨id,_,bd,rfl,ad⟩with hc|hc
      ·exact .inr (.inl hc)
      ·exact .inr (.inr hc)
    ·rintro b ⟨k,o,ah,ar,bg⟩
     obtain⟨p,aa,_,au,_⟩:=back k o ah;exact bz.hg b ⟨k,p,aa,au.trans ar,bg⟩
    ·obtain⟨p,aa,_,_,_⟩:=back k o ah
     exact bz.dK k aj p aa
    ·obtain⟨p,aa,_,_,_⟩:=back k o ah
     exact bz.new k p aa
 ·exact cm.refl s
end Go.aM
namespace Go.aM
open Go
def qo(s:ByteArray)(pos:Nat):wy:=⟨fun _ v o=>(∃b,v= .pointer (some ⟨b,0,none⟩))∧o= .stringIter s pos,fun _ _ _ _ _ h=>h,none,fun _ h=>by cases h⟩
section
variable {P:Program} {G:a8} {o:Oper} {s:aP}
theorem run_newObj(ie:Obj)(w:World):(newObj ie).run P w= .ok w.heap.size (w.alloc ie):=rfl
theorem Rm{w:World}{r:Nat}{b:ByteArray}{p:Nat}(h:w.heap[r]? =some (.stringIter b p)):(getObj r).run P w= .ok (.stringIter b p) w:=by simp[getObj,Sem.run,h]
theorem zcJ{w:World}{r:Nat}{b:ByteArray}{p:Nat}(ie:Obj)(h:w.heap[r]? =some (.stringIter b p)):(setObj r ie).run P w= .ok () {w with heap:=w.heap.setIfInBounds r ie}:=by simp[setObj,Sem.run,h]
theorem zcK(t:TypeId)(x:Operand)(an:o.op= .range t x)(aI:P.underlying t=some .string){b:ByteArray}(hx:aL G s x= .av (.v (.string b)))(ad:s.base≤s.next):
 dQ P G o s ({s with heap:=(s.next,.bM (qo b 0))::s.heap,next:=s.next+1}.put o.dst (.ref s.next)):=by
 intro E a w ⟨β,ro,af⟩ K Q hK
 unfold Oper.wp
 simp only[execOp,an,af.ec hx,Sem.run_bind,Instr.range,run_underlying aI,Result.andThen_ok,Sem.run_pure]
 have jl:aE s.heap s.next=none:=by
  cases ah:aE s.heap s.next with
  |none=>rfl
  |some p=>have:=af.trans.new _ _ ah;omega
 have fc:=af.new (w':=w.alloc (.stringIter b 0)) s.next jl ad (Nat.le_refl _) (.bM (qo b 0)) (.pointer (some ⟨w.heap.size,0,none⟩)) rfl rfl rfl (by simp) (fun b ad=>Go.RowKit.Below.heap_alloc w _ b ad) (fun b ad=>by simp[b4]at ad;omega) rfl
  (.bM _ w.heap.size (.stringIter b 0) (by rw[dR];rfl) (heap_alloc_new w _) ⟨⟨_,dR _ _ _⟩,rfl⟩)
 have aj:=hK _ _ ⟨_,ro,fc.put o.dst (.ref s.next) (.pointer (some ⟨w.heap.size,0,none⟩)) (.ref _ _ (Nat.lt_succ_self _) fun bN _=>(dR _ _ _).symm)⟩
 rw[run_newObj]
 exact aj
theorem zcL(x:Operand)(an:o.op= .next x true){id:Nat}(hx:aL G s x= .ref id){b:ByteArray}{pos:Nat}(bd:aE s.heap id=some (.bM (qo b pos)))(ak:b.size≤pos):
 cN P G o s (.tuple [.av (.v (.bool false))]):=
 fun E a w β ro af=>by
  have dk:=af.heap.c7 id _ bd
  cases dk with
  |bM _ Dh ie aa ae au=>
   obtain⟨⟨b',gz⟩,rfl⟩:=au
   have dS:=af.eval x
   rw[hx]at dS;generalize he:a.eval x=c at dS
   cases dS with
   |ref _ _ _ hc=>
    have iN:=hc _ bd
    rw[gz]at aa iN;simp only[b4,Option.some.injEq]at aa;subst aa;refine⟨.tuple #[.bool false],?_,.tuple _ _ rfl fun j y ag=>?_⟩
    ·have hn: ¬pos<b.size:=by omega
     rw[iN]at he;simp[execOp,an,he,Instr.next,Rm ae,hn]
    ·cases j with
     |zero=>simp at ag;subst ag;exact .fz rfl
     |succ j=>simp at ag
theorem zcM(x:Operand)(an:o.op= .next x true){id:Nat}(hx:aL G s x= .ref id){b:ByteArray}{pos:Nat}(bd:aE s.heap id=some (.bM (qo b pos)))(ak:pos<b.size){c k:Nat}(hd:Utf8.decode b pos=(c,k)):
 dQ P G o s ({s with heap:=eO s.heap id (.bM (qo b (pos+k)))}.put o.dst (.tuple [.av (.v (.bool true)),.av (.v (.int .i64 (pos:Int))),.av (.v (.int .i32 (c:Int)))])):=by
 intro E a w ⟨β,ro,af⟩ K Q hK
 have dk:=af.heap.c7 id _ bd
 cases dk with
 |bM _ Dh ie aa ae au=>
  obtain⟨⟨b',gz⟩,rfl⟩:=au
  have dS:=af.eval x
  rw[hx]at dS;generalize he:a.eval x=o7 at dS
  cases dS with
  |ref _ _ _ hc=>
   have iN:=hc _ bd
   have o8:=aa
   rw[gz]at aa iN;simp only[b4,Option.some.injEq]at aa;subst aa;rw[iN]at he;unfold Oper.wp
   have cp:(execOp a.eval o).run P w= .ok (.value (.tuple #[.bool true,goInt pos,.int .i32 c])) {w with heap:=w.heap.setIfInBounds b' (.stringIter b (pos+k))}:=by
    simp[execOp,an,he,Instr.next,Rm ae,ak,hd,zcJ _ ae]
   rw[cp]
   have bI:=(Array.getElem?_eq_some_iff.1 ae).1
   have hw:=af.write (w':={w with heap:=w.heap.setIfInBounds b' (.stringIter b (pos+k))}) id _ (.bM (qo b (pos+k))) bd rfl rfl (.inr (.inr ⟨_,_,rfl,rfl⟩)) rfl rfl rfl (by simp) (fun j ag b5=>by
    have:b'≠j:=fun e=>b5 (by rw[gz,←e];rfl)
    simp[Array.getElem?_setIfInBounds_ne this]) (.bM _ b' (.stringIter b (pos+k)) o8 (by simp[bI]) ⟨⟨b',gz⟩,rfl⟩)
   refine hK _ _ ⟨β,ro,hw.put o.dst _ _ (.tuple _ _ rfl fun j y ag=>?_)⟩
   match j,ag with
   |0,ag=>simp at ag;subst ag;exact .fz rfl
   |1,ag=>simp at ag;subst ag;exact .fz rfl
   |2,ag=>simp at ag;subst ag;exact .fz rfl
   |j+3,ag=>simp at ag
end
end Go.aM
namespace Go.aM
open Go
section
variable {P:Program} {G:a8} {o:Oper} {s:aP} {E:Entry} {a:Act} {w w':World} {β:Nat→Value} {ro ro':Nat→Prop}
theorem c5.grow(h:c5 E G s a w β ro)(oV:w'.os=w.os)(oW:w'.tape=w.tape)(kE:w'.output=w.output)(bP:w.heap.size≤w'.heap.size)(hw: ∀b,b<w.heap.size→w'.heap[b]? =w.heap[b]?)
 (cc: ∀b,ro b→ro' b)(fc: ∀b,ro' b→ro b∨(w.heap.size≤b∧b<w'.heap.size)):c5 E G s a w' β ro':=by
 have aj: ∀b,ro b→w'.heap[b]? =w.heap[b]? :=fun b ad=>hw b (h.heap.lt b ad)
 refine⟨h.defers,h.size,fun i x hx=>(h.slot i x hx).keep aj cc (Nat.le_refl _) (fun _ t cs ah=>⟨rfl,t,cs,ah⟩) (fun _ z t _ es ah=>⟨rfl,z,t,es,ah⟩) (fun _ bN ah=>⟨rfl,bN,ah⟩),
  ⟨fun id ie ah=>(h.heap.c7 id ie ah).keep aj cc (Nat.le_refl _) bP rfl (fun ar b ad=>hw b ((h.heap.c7 id ie ah).hJ ar ad)) (fun _ t cs ah=>⟨rfl,t,cs,ah⟩) (fun _ z t _ es ah=>⟨rfl,z,t,es,ah⟩) (fun _ bN ah=>⟨rfl,bN,ah⟩),h.heap.inj,fun b ad an=>?_,fun b ad=>?_⟩,
  h.ic.keep aj cc,?_,h.base⟩
 ·rcases fc b ad with aa|⟨aa,_⟩
  ·exact h.heap.ff b aa an
  ·obtain⟨id,ie,ah,ar,gz⟩:=an
   have:=(h.heap.c7 id ie ah).hJ ar gz
   omega
 ·rcases fc b ad with aa|⟨_,aa⟩
  ·exact Nat.lt_of_lt_of_le (h.heap.lt b aa) bP
  ·exact aa
 ·have t:=h.trans
  refine⟨oV.trans t.os,oW.trans t.tape,kE.trans t.output,Nat.le_trans t.size bP,fun b ad hn=>(hw b (Nat.lt_of_lt_of_le ad t.size)).trans (t.frame b ad hn),fun b ad=>?_,fun b ad=>cc b (t.j7 b ad),t.hg,t.dK,t.new,t.le⟩
  rcases fc b ad with aa|⟨aa,_⟩
  ·exact t.jk b aa
  ·exact .inr (.inr (Nat.le_trans t.size aa))
theorem dQ.J2{t:TypeId}{n:Nat}{es:List (List a6)}(bb:wJ P G o s t n es):dQ P G o s (s.put o.dst (.av (.aO n es))):=by
 obtain⟨hn,h⟩:=bb
 intro E a w ⟨β,ro,af⟩ K Q hK
 obtain⟨v,xs,w',cp,hA,cS,gH,eW⟩:=h E a w β ro af
 unfold Oper.wp
 rw[cp]
 have hw: ∀b,b<w.heap.size→w'.heap[b]? =w.heap[b]? :=fun b ad=>cS.block b ad (by simp)
 have c1:ib w' t n v es.length xs:=.Da hA
 have ah:=af.grow (ro':=fun b=>ro b∨b4 v=some b) cS.os cS.tape cS.output cS.size hw (fun _ h=>.inl h) (fun b ad=>by
  rcases ad with h|h
  ·exact .inl h
  ·exact .inr ⟨gH b h,(c1.hJ h).1⟩)
 exact hK _ _ ⟨β,_,ah.put o.dst _ _ (.av _ _ (c1.J1 hn (fun j x ag=>(eW j x ag).keep (fun b ad=>hw b (af.heap.lt b ad)) fun _ h=>.inl h) fun b ad=>.inr ad))⟩
mutual
theorem Rn(d:Nat): ∀(x:aD),fA x=true→qj d x=x∧gB 0 x=true
 | .av _,_=>⟨rfl,rfl⟩
 | .agg cs,h=>by
  have:=zI d cs (by simpa[fA]using h)
  exact⟨by simp[qj,this.1],by simpa[gB]using this.2⟩
 | .tuple cs,h=>by
  have:=zI d cs (by simpa[fA]using h)
  exact⟨by simp[qj,this.1],by simpa[gB]using this.2⟩
 | .fn f p q,h=>by
  simp only[fA,Bool.and_eq_true]at h
  have aa:=zI d p h.1
  have ae:=zI d q h.2
  exact⟨by simp[qj,aa.1,ae.1],by simp[gB,aa.2,ae.2]⟩
 | .top,_=>⟨rfl,rfl⟩
 | .ptr _ _,h=>by simp[fA]at h
 | .dA _ _,h=>by simp[fA]at h
 | .cW _ _ _,h=>by simp[fA]at h
 | .aO _,h=>by simp[fA]at h
 | .ref _,h=>by simp[fA]at h
theorem zI(d:Nat): ∀(l:List aD),e4 l=true→lG d l=l∧k3 0 l=true
 |[],_=>⟨rfl,rfl⟩
 |x::r,h=>by
  simp only[e4,Bool.and_eq_true]at h
  have aa:=Rn d x h.1
  have ae:=zI d r h.2
  exact⟨by simp[lG,aa.1,ae.1],by simp[k3,aa.2,ae.2]⟩
end
theorem dQ.zcN{x:Operand}{xs:Array Operand}{ts:Array TypeId}(an:o.op= .call {callee:=.value x,args:=xs,argTypes:=ts}){f:FuncId}(hx:aL G s x= .fn (.func f) [] [])
 (gC:m9 P f=true){args:List aD}(h3:xs.toList.map (fun y=>hN s.heap (aL G s y))=args)(o2:e4 args=true){r:aD}(hc:dF P G f args [] 0 fun dv bV=>dv=r∧bV=[])(af:fA r=true)(ad:s.base≤s.next):
 dQ P G o s (s.put o.dst r):=by
 obtain⟨J3,rE⟩:=Rn s.next r af
 have:=dQ.call (K:=0) an hx gC h3 o2 hc (fun _ _ h=>h) rE rfl ad
 rw[J3]at this
 exact this
def jt(ks:List Nat)(l:List aD):List aD:=l.mapIdx fun i x=>if ks.contains i then x else .top
theorem zJ(ks:List Nat)(l:List aD)(i:Nat):(jt ks l)[i]? =(l[i]?).map fun x=>if ks.contains i then x else .top:=by
 simp[jt]
theorem c5.mask(h:c5 E G s a w β ro)(ks:List Nat):c5 E G {s with cQ:=jt ks s.cQ} a w β ro:=by
 refine⟨h.defers,by simp[jt,h.size],fun i x hx=>?_,h.heap,h.ic,h.trans,h.base⟩
 simp only[zJ]at hx
 cases hi:s.cQ[i]? with
 |none=>simp[hi]at hx
 |some y=>
  simp only[hi,Option.map_some,Option.some.injEq]at hx
  split at hx
  ·subst hx;exact h.slot i y hi
  ·subst hx;exact .top _
def DStep(P:Program)(G:a8)(ops:Array Oper)(dr:aP)(T:List aD)(o:Oper)(v:aD):Prop:=
 ∀s:aP,s.heap=dr.heap→s.next=dr.next→s.base=dr.base→s.cQ.length=T.length→(∀t∈o.looksAt ops,s.cQ[t]? =T[t]?)→
  (dN ops s o=some true∧dQ P G o s (s.put o.dst v))∨(dN ops s o=some false∧v= .tuple [])
theorem J4{ks:List Nat}{l h2:List aD}(hlen:l.length=h2.length)(h: ∀t∈ks,l[t]? =h2[t]?):jt ks l=jt ks h2:=by
 apply List.ext_getElem?
 intro i
 rw[zJ,zJ]
 by_cases hi:i∈ks
 ·rw[h i hi]
 ·have hc:ks.contains i=false:=by simpa using hi
  simp only[hc]
  by_cases ar:i<l.length
  ·rw[List.getElem?_eq_getElem ar,List.getElem?_eq_getElem (by omega)];rfl
  ·rw[List.getElem?_eq_none (by omega),List.getElem?_eq_none (by omega)]
theorem J5{ops:Array Oper}{ks:List Nat}(aj: ∀j b,o.guard=some (j,b)→∀d,mn ops j=some d→d∈ks):dN ops {s with cQ:=jt ks s.cQ} o=dN ops s o:=by
 unfold dN
 cases ah:o.guard with
 |none=>rfl
 |some J6=>
  obtain⟨j,b⟩:=J6;simp only
  cases hd:mn ops j with
  |none=>rfl
  |some d=>
   have hm:ks.contains d=true:=by simpa using aj j b ah d hd
   simp only[zJ]
   cases ai:s.cQ[d]? with
   |none=>simp
   |some x=>simp only[Option.map_some,hm,if_true]
theorem J7{ops:Array Oper}(j:Nat)(b:Bool)(ah:o.guard=some (j,b))(d:Nat)(hd:mn ops j=some d):d∈o.looksAt ops:=by
 unfold mn at hd
 simp[Oper.looksAt,ah,hd]
theorem DStep.val{ops:Array Oper}{dr:aP}{T:List aD}{v:aD}(ah:dN ops ⟨jt (o.looksAt ops) T,dr.heap,dr.next,dr.base⟩ o=some true)(aw:rD P G o ⟨jt (o.looksAt ops) T,dr.heap,dr.next,dr.base⟩=some v):DStep P G ops dr T o v:=by
 intro s aa ae au hlen bS
 have hm:=J4 hlen bS
 have dD:({s with cQ:=jt (o.looksAt ops) s.cQ}:aP)=⟨jt (o.looksAt ops) T,dr.heap,dr.next,dr.base⟩:=by rw[hm,←aa,←ae,←au]
 refine .inl ⟨by rw[←J5 (ks:=o.looksAt ops) J7,dD];exact ah,cN.step fun E a w β ro af=>?_⟩
 have dW:=af.mask (o.looksAt ops)
 rw[dD]at dW
 have:=J0 aw E a w β ro dW
 simpa only[aa,ae]using this
theorem zcO{ks:List Nat}{y:Operand}(ax: ∀t,y= .tmp t→t∈ks):aL G {s with cQ:=jt ks s.cQ} y=aL G s y:=by
 cases y with
 |tmp t=>
  have hm:ks.contains t=true:=by simpa using ax t rfl
  simp only[aL,List.getD,zJ]
  cases ai:s.cQ[t]? with
  |none=>rfl
  |some x=>simp only[Option.map_some,hm,if_true]
 |_=>rfl
theorem DStep.of{ops:Array Oper}{dr:aP}{T:List aD}{v:aD}(ah:dN ops ⟨jt (o.looksAt ops) T,dr.heap,dr.next,dr.base⟩ o=some true)
 (h: ∀s:aP,s.heap=dr.heap→s.next=dr.next→s.base=dr.base→(∀y:Operand,(∀t,y= .tmp t→t∈o.looksAt ops)→aL G s y=aL G ⟨jt (o.looksAt ops) T,dr.heap,dr.next,dr.base⟩ y)→dQ P G o s (s.put o.dst v)):DStep P G ops dr T o v:=by
 intro s aa ae au hlen bS
 have hm:=J4 hlen bS
 have dD:({s with cQ:=jt (o.looksAt ops) s.cQ}:aP)=⟨jt (o.looksAt ops) T,dr.heap,dr.next,dr.base⟩:=by rw[hm,←aa,←ae,←au]
 refine .inl ⟨by rw[←J5 (ks:=o.looksAt ops) J7,dD];exact ah,h s aa ae au fun y ax=>?_⟩
 rw[←dD]
 exact(zcO ax).symm
end
end Go.aM
namespace Go.aM
open Go
def wN(l:List Oper)(sP:List aD)(qp:List aD)(E:Nat→Prop)(T:List aD):Prop:=
 T.length=qp.length∧∀t,t<qp.length→((∀j o,l[j]? =some o→E j→o.dst≠some t)→T[t]? =qp[t]?)∧(∀j o,l[j]? =some o→E j→o.dst=some t→T[t]? =sP[j]?)
theorem wN.same{l:List Oper}{sP qp T Ro:List aD}{E wO:Nat→Prop}(h:wN l sP qp E T)(h':wN l sP qp wO Ro)(t:Nat)(he: ∀j o,l[j]? =some o→o.dst=some t→(E j↔wO j)):T[t]? =Ro[t]? :=by
 by_cases aI:t<qp.length
 ·by_cases hx: ∃j o,l[j]? =some o∧E j∧o.dst=some t
  ·obtain⟨j,o,aa,ae,au⟩:=hx
   rw[(h.2 t aI).2 j o aa ae au,(h'.2 t aI).2 j o aa ((he j o aa au).1 ae) au]
  ·have aC: ∀j o,l[j]? =some o→E j→o.dst≠some t:=fun j o aa ae au=>hx ⟨j,o,aa,ae,au⟩
   have bf: ∀j o,l[j]? =some o→wO j→o.dst≠some t:=fun j o aa ae au=>hx ⟨j,o,aa,(he j o aa au).2 ae,au⟩
   rw[(h.2 t aI).1 aC,(h'.2 t aI).1 bf]
 ·rw[List.getElem?_eq_none (by have:=h.1;omega),List.getElem?_eq_none (by have:=h'.1;omega)]
def wP(T:List aD)(dst:Option Nat)(v:aD):List aD:=
 match dst with
 |some d=>T.set d v
 |none=>T
theorem zcP(T:List aD)(dst:Option Nat)(v:aD):(wP T dst v).length=T.length:=by
 cases dst<;>simp[wP]
theorem wN.put{l:List Oper}{sP qp T:List aD}{E:Nat→Prop}(h:wN l sP qp E T){i:Nat}{o:Oper}{v:aD}(hi:l[i]? =some o)(aw:sP[i]? =some v)
 (hd: ∀j p,l[j]? =some p→E j→p.dst≠none→p.dst≠o.dst){wO:Nat→Prop}(gQ: ∀j,wO j↔E j∨j=i):wN l sP qp wO (wP T o.dst v):=by
 refine⟨by rw[zcP];exact h.1,fun t aI=>⟨fun hn=>?_,fun j p ag J8 ak=>?_⟩⟩
 ·have aa:=(h.2 t aI).1 fun j p ag J8=>hn j p ag ((gQ j).2 (.inl J8))
  cases qq:o.dst with
  |none=>exact aa
  |some d=>
   have b5:d≠t:=fun e=>hn i o hi ((gQ i).2 (.inr rfl)) (by rw[qq,e])
   simp only[wP];rw[List.getElem?_set_ne b5]
   exact aa
 ·rcases (gQ j).1 J8 with aa|aa
  ·have ae:=(h.2 t aI).2 j p ag aa ak
   cases qq:o.dst with
   |none=>exact ae
   |some d=>
    have b5:d≠t:=fun e=>hd j p ag aa (by rw[ak];simp) (by rw[ak,qq,e])
    simp only[wP];rw[List.getElem?_set_ne b5]
    exact ae
  ·subst aa
   rw[hi]at ag;simp only[Option.some.injEq]at ag;subst ag;rw[ak];simp only[wP];rw[List.getElem?_set_self (by have:=h.1;omega),aw]
section
variable {P:Program} {G:a8} {dr:aP}
abbrev wQ(ops:Array Oper)(dr:aP)(T:List aD)(o:Oper):aP:=⟨jt (o.looksAt ops) T,dr.heap,dr.next,dr.base⟩
theorem DStep.row{ops:Array Oper}{T:List aD}{o:Oper}{t n:Nat}{es:List (List a6)}(ah:dN ops (wQ ops dr T o) o=some true)(h:wJ P G o (wQ ops dr T o) t n es):DStep P G ops dr T o (.av (.aO n es)):=by
 intro s aa ae au hlen bS
 have hm:=J4 hlen bS
 have dD:({s with cQ:=jt (o.looksAt ops) s.cQ}:aP)=wQ ops dr T o:=by rw[hm,aa,ae,au]
 refine .inl ⟨by rw[←J5 (ks:=o.looksAt ops) J7,dD];exact ah,dQ.J2 (t:=t) ⟨h.1,fun E a w β ro af=>?_⟩⟩
 have dW:=af.mask (o.looksAt ops)
 rw[dD]at dW
 exact h.2 E a w β ro dW
theorem DStep.call{ops:Array Oper}{T:List aD}{o:Oper}{x:Operand}{xs:Array Operand}{ts:Array TypeId}(an:o.op= .call {callee:=.value x,args:=xs,argTypes:=ts})(ah:dN ops (wQ ops dr T o) o=some true){f:FuncId}
 (hx:aL G (wQ ops dr T o) x= .fn (.func f) [] [])(gC:m9 P f=true){args:List aD}(h3:xs.toList.map (fun y=>hN dr.heap (aL G (wQ ops dr T o) y))=args)(o2:e4 args=true){r:aD}
 (hc:dF P G f args [] 0 fun dv bV=>dv=r∧bV=[])(af:fA r=true)(ad:dr.base≤dr.next):DStep P G ops dr T o r:=by
 refine DStep.of ah fun s aa ae au ax=>?_
 have Rp: ∀y:Operand,(y=x∨y∈xs)→∀t,y= .tmp t→t∈o.looksAt ops:=by
  intro y ax t aI;subst aI;refine List.mem_append_left _ (List.mem_filterMap.2 ⟨.tmp t,?_,rfl⟩)
  rw[an];simp only[Op.operands,Call.operands]
  rcases ax with h|h
  ·rw[←h];simp
  ·simp[h]
 refine dQ.zcN an (by rw[ax x (Rp x (.inl rfl))];exact hx) gC (args:=args) ?_ o2 hc af (by rw[ae,au];exact ad)
 rw[←h3]
 apply List.map_congr_left
 intro y hm
 rw[aa,ax y (Rp y (.inr (by simpa using hm)))]
theorem DStep.cast{ops:Array Oper}{T:List aD}{o:Oper}{v bh:aD}(h:DStep P G ops dr T o v)(e:v=bh):DStep P G ops dr T o bh:=e ▸ h
end
end Go.aM
namespace Go.aM
open Go
section
variable {P:Program} {G:a8} {o:Oper} {s:aP}
def uI(P:Program)(t:TypeId):Option (TypeId × Nat × List Value):=
 match P.underlying t with
 |some (.slice e)=>match P.info? e,zeroCells P e with
  |some i,some zs=>if zs.all Value.oneCell'∧zs.length=i.size∧0<i.size then some (e,i.size,zs)else none
  |_,_=>none
 |_=>none
def n2(P:Program)(G:a8)(s:aP)(t:TypeId)(len:Nat)(parts:List (Nat × Operand)):Option (TypeId × Nat × List (List a6)):=
 match uI P t with
 |some (e,n,zs)=>
  if len=0 then(if parts.isEmpty then some (e,n,[])else none)
  else if len*n≤16777216∧(parts.map fun p=>(p.1,aL G s p.2)).all (fun p=>(cR p.2).all (eE s.heap))then
   match kd (fun i=>some (i*n,n)) ((List.replicate len (zs.map fun z=>aD.av (.v z))).flatten) (parts.map fun p=>(p.1,aL G s p.2))with
   |some ds=>match iL ds with
    |some rs=>some (e,n,chunk n len rs)
    |none=>none
   |none=>none
  else none
 |none=>none
theorem Di{t:TypeId}{len:Nat}{parts:Array (Nat × Operand)}(an:o.op= .buildSlice t len parts){e n:Nat}{es:List (List a6)}(h:n2 P G s t len parts.toList=some (e,n,es)):wJ P G o s e n es:=by
 unfold n2 at h
 split at h
 ·rename_i ay cJ zs aI
  unfold uI at aI
  split at aI
  ·rename_i bf hu
   split at aI
   ·rename_i i zcQ hi aQ
    split at aI
    ·rename_i hc
     simp only[Option.some.injEq,Prod.mk.injEq]at aI;obtain⟨rfl,rfl,rfl⟩:=aI
     split at h
     ·rename_i hlen
      subst hlen
      split at h
      ·rename_i ak
       simp only[Option.some.injEq,Prod.mk.injEq]at h;obtain⟨rfl,rfl,rfl⟩:=h;refine⟨by simp,fun E a w β ro af=>⟨.slice (some ⟨w.heap.size,0,none⟩) 0 0,[],w.alloc (.cells #[] bf),?_,?_,World.grownBy_alloc w _ none,fun b ad=>by simp[b4]at ad,by simp⟩⟩
       ·have gI:parts= #[]:=by
         apply Array.ext';simpa using ak
        subst gI;simp[execOp,an,Instr.buildSlice,run_underlying hu,sizeOf,typeInfo,hi,Instr.fill,newRow,Sem.run_bind,Array.range_zero']
       ·exact World.ownsRow_lit w #[] 0 (Nat.zero_le _) (Nat.zero_le _) (by simp)
      ·cases h
     ·rename_i hlen
      split at h
      ·rename_i JU
       split at h
       ·rename_i ds hf
        split at h
        ·rename_i rs gL
         simp only[Option.some.injEq,Prod.mk.injEq]at h;obtain⟨rfl,rfl,rfl⟩:=h
         have zcR:0<len*i.size:=Nat.mul_pos (Nat.pos_of_ne_zero hlen) hc.2.2
         exact zcw t len parts an hu (by simp[hi]) aQ hc.1 hc.2.1 ⟨zcR,JU.1⟩ rfl JU.2 hf gL
        ·cases h
       ·cases h
      ·cases h
    ·cases aI
   ·cases aI
  ·cases aI
 ·cases h
end
theorem zcS{k:Nat}(h:k+1≤9223372036854775807):IntKind.i64.wrap ((k:Int)+1)=((k+1:Nat):Int):=by
 rw[pQ _ (by omega) (by omega)]
 rfl
end Go.aM
namespace Go.aM
open Go
def wR(m:Option Nat):aD→aD
 | .av (.v (.slice none 0 0))=>match m with
  |some n=>.av (.aO n [])
  |none=>.av (.v (.slice none 0 0))
 |x=>x
def rF:List (Option Nat)→List aD→List aD
 |m::ms,c::cs=>wR m c::rF ms cs
 |_,cs=>cs
def J9(m:List (Option Nat)):aD→aD
 | .agg cs=>.agg (rF m cs)
 |x=>wR (m.headD none) x
def aP.zK(s:aP)(k:Nat)(m:List (Option Nat)):aP:=
 {s with cQ:=match s.cQ[k]? with|some x=>s.cQ.set k (J9 m x)|none=>s.cQ}
theorem Rq{w:World}{ro:Nat→Prop}{σ:Heap}{β:Nat→Value}{N:Nat}{m:Option Nat}{x:aD}{c:Value}(h:bs w ro σ β N x c):bs w ro σ β N (wR m x) c:=by
 unfold wR
 split
 ·cases m with
  |none=>exact h
  |some n=>
   refine .av _ _ ?_
   cases h with
   |av _ _ h=>
    cases h;exact .aO n [] none 0 (fun _=>undef) (Nat.le_refl _) (Nat.zero_le _) (by simp) (by simp) (by simp)
 ·exact h
theorem zcT{m:List (Option Nat)}{cs:List aD}{j:Nat}{x:aD}(h:(rF m cs)[j]? =some x): ∃y p,cs[j]? =some y∧x=wR p y:=by
 induction m generalizing cs j with
 |nil=>exact⟨x,none,by simpa[rF]using h,by unfold wR;split<;>rfl⟩
 |cons a m a1=>
  cases cs with
  |nil=>simp[rF]at h
  |cons c cs=>
   cases j with
   |zero=>simp[rF]at h;exact⟨c,a,rfl,h.symm⟩
   |succ j=>simp only[rF,List.getElem?_cons_succ]at h⊢;exact a1 h
theorem zcU(m:List (Option Nat))(cs:List aD):(rF m cs).length=cs.length:=by
 induction m generalizing cs with
 |nil=>rfl
 |cons a m a1=>cases cs<;>simp[rF,a1]
theorem zcV{w:World}{ro:Nat→Prop}{σ:Heap}{β:Nat→Value}{N:Nat}{m:List (Option Nat)}{x:aD}{c:Value}(h:bs w ro σ β N x c):bs w ro σ β N (J9 m x) c:=by
 unfold J9
 split
 ·cases h with
  |agg cs c aa ae=>
   refine .agg _ _ (by rw[aa,zcU]) fun j y ag=>?_
   obtain⟨z,p,aQ,rfl⟩:=zcT ag;exact Rq (ae j z aQ)
 ·exact Rq h
theorem cm.zK{s bq:aP}(k:Nat)(m:List (Option Nat))(h:s.zK k m=bq):cm s bq:=by
 subst h
 intro E G a w ⟨β,ro,h⟩
 unfold aP.zK
 cases aj:s.cQ[k]? with
 |none=>exact⟨β,ro,h⟩
 |some x=>
  refine⟨β,ro,h.defers,by simp[h.size],fun i y ax=>?_,h.heap,h.ic,h.trans,h.base⟩
  rw[List.getElem?_set]at ax
  split at ax
  ·rename_i e
   subst e
   split at ax
   ·simp only[Option.some.injEq]at ax
    subst ax;exact zcV (h.slot k x aj)
   ·cases ax
  ·exact h.slot i y ax
end Go.aM
namespace Go.aM
open Go
theorem cm.zcW{s bq:aP}(k e n:Nat)(aj:s.cQ[k]? =some (.av (.v (.slice none 0 0))))(ad:s.base≤s.next)
 (h:({s with cQ:=s.cQ.set k (.aO s.next),heap:=(s.next,.row false e n [])::s.heap,next:=s.next+1}:aP)=bq):cm s bq:=by
 subst h
 intro E G a w ⟨β,ro,af⟩
 have jl:aE s.heap s.next=none:=by
  cases ah:aE s.heap s.next with
  |none=>rfl
  |some p=>have:=af.trans.new _ _ ah;omega
 have sQ:=bs.val (af.slot k _ aj)
 have fc:=af.new (w':=w) s.next jl ad (Nat.le_refl _) (.row false e n []) (.slice none 0 0) rfl rfl rfl (Nat.le_refl _) (fun _ _=>rfl) (fun c hc=>by simp[b4]at hc) rfl
  (.row e n [] [] (by rw[dR];exact⟨by simp,.inl ⟨⟨none,rfl,fun _ h=>(by cases h)⟩,rfl⟩⟩) (by simp) (by simp))
 refine⟨_,ro,fc.defers,by simpa using fc.size,fun i y ax=>?_,fc.heap,fc.ic,fc.trans,fc.base⟩
 rw[List.getElem?_set]at ax
 split at ax
 ·rename_i aC
  subst aC
  split at ax
  ·simp only[Option.some.injEq]at ax
   subst ax;refine .aO _ _ (Nat.lt_succ_self _) fun z bz cJ dP _=>?_
   rw[sQ];exact(dR _ _ _).symm
  ·cases ax
 ·exact fc.slot i y ax
end Go.aM
namespace Go.aM
open Go
def uJ(σ:Heap):aD→Option a6
 | .av x=>some x
 | .aO id=>match aE σ id with
  |some (.row _ _ n es)=>some (.aO n es)
  |_=>none
 | .ref id=>match aE σ id with
  |some (.bM bN)=>bN.view
  |_=>none
 |_=>none
def zL(σ:Heap):List aD→Option (List a6)
 |[]=>some []
 |x::r=>match uJ σ x,zL σ r with
  |some y,some l=>some (y::l)
  |_,_=>none
mutual
def jR(σ:Heap):aD→aD
 | .aO id=>match aE σ id with
  |some (.row _ _ n es)=>.av (.aO n es)
  |_=>.aO id
 | .ptr id off=>match aE σ id with
  |some (.box _ cs)=>(match zL σ (cs.drop off)with
   |some l=>.av (.ptr l)
   |none=>.ptr id off)
  |_=>.ptr id off
 | .agg cs=>.agg (h6 σ cs)
 | .tuple cs=>.tuple (h6 σ cs)
 | .fn f p q=>.fn f (h6 σ p) (h6 σ q)
 | .av x=>.av x
 | .cW id i off=>.cW id i off
 | .dA id n=>.dA id n
 | .ref id=>match aE σ id with
  |some (.bM bN)=>(match bN.view with
   |some x=>.av x
   |none=>.ref id)
  |_=>.ref id
 | .top=>.top
def h6(σ:Heap):List aD→List aD
 |[]=>[]
 |x::r=>jR σ x::h6 σ r
end
theorem uK(σ:Heap): ∀(l:List aD),(h6 σ l).length=l.length
 |[]=>rfl
 |x::r=>by simp[h6,uK σ r]
theorem uL(σ:Heap): ∀{l:List aD} {j:Nat} {x:aD},(h6 σ l)[j]? =some x→∃y,l[j]? =some y∧x=jR σ y
 |[],j,x,h=>by simp[h6]at h
 |y::r,j,x,h=>by
  cases j with
  |zero=>simp[h6]at h;exact⟨y,by simp,h.symm⟩
  |succ j=>simp[h6]at h;simpa using uL σ h
theorem Rr(σ:Heap): ∀{l:List aD} {m:List a6},zL σ l=some m→∀{j:Nat} {x:a6},m[j]? =some x→∃y,l[j]? =some y∧uJ σ y=some x
 |[],m,h,j,x,ag=>by simp[zL]at h;subst h;simp at ag
 |y::r,m,h,j,x,ag=>by
  simp only[zL]at h
  split at h
  ·rename_i z l aa ae
   simp only[Option.some.injEq]at h;subst h
   cases j with
   |zero=>simp at ag;subst ag;exact⟨y,rfl,aa⟩
   |succ j=>simp at ag;simpa using Rr σ ae ag
  ·cases h
abbrev uM(ro:Nat→Prop)(σ:Heap)(β:Nat→Value):Nat→Prop:=fun b=>ro b∨Own σ β b
theorem Rs{w:World}{ro:Nat→Prop}{σ:Heap}{β:Nat→Value}{N id:Nat}(bb:hb w ro σ β N){z:Bool}{t:TypeId}{n:Nat}{es:List (List a6)}(ah:aE σ id=some (.row z t n es)):cP w (uM ro σ β) (.aO n es) (β id):=by
 have an:=bb.c7 id _ ah
 cases an with
 |row t n es xs aa ae au=>exact aa.J1 ae (fun j x ag=>(au j x ag).keep (fun _ _=>rfl) fun _ h=>.inl h) fun b ad=>.inr ⟨id,_,ah,rfl,ad⟩
 |ga t n es aa=>exact aa.keep (fun _ _=>rfl) fun _ h=>.inl h
theorem Rt{w:World}{ro:Nat→Prop}{σ:Heap}{β:Nat→Value}{N id:Nat}(bb:hb w ro σ β N){bN:wy}(ah:aE σ id=some (.bM bN)){av:a6}(aw:bN.view=some av):cP w (uM ro σ β) av (β id):=by
 have an:=bb.c7 id _ ah
 cases an with
 |bM _ b o aa ae au=>exact bN.Qk av aw w ro _ _ o b au aa ae (fun _ h=>.inl h) (.inr ⟨id,_,ah,rfl,aa⟩)
theorem zcX{w:World}{ro:Nat→Prop}{σ:Heap}{β:Nat→Value}{N:Nat}(bb:hb w ro σ β N){x:aD}{c:Value}{y:a6}(h:bs w ro σ β N x c)(ax:uJ σ x=some y):cP w (uM ro σ β) y c:=by
 cases h with
 |av x c hx=>
  simp only[uJ,Option.some.injEq]at ax;subst ax;exact hx.keep (fun _ _=>rfl) fun _ h=>.inl h
 |aO id c ar ak=>
  simp only[uJ]at ax
  split at ax
  ·rename_i z t n es ah
   simp only[Option.some.injEq]at ax;subst ax;rw[ak z t n es ah];exact Rs bb ah
  ·cases ax
 |ref id c ar ak=>
  simp only[uJ]at ax
  split at ax
  ·rename_i bN ah
   rw[ak bN ah];exact Rt bb ah ax
  ·cases ax
 |_=>cases ax
theorem Ka{w:World}{ro:Nat→Prop}{σ:Heap}{β:Nat→Value}{N:Nat}(bb:hb w ro σ β N){x:aD}{c:Value}(h:bs w ro σ β N x c):bs w (uM ro σ β) σ β N (jR σ x) c:=by
 induction h with
 |aO id c ar ak=>
  simp only[jR]
  split
  ·rename_i z t n es ah
   rw[ak z t n es ah];exact .av _ _ (Rs bb ah)
  ·exact .aO id c ar ak
 |ptr id off c ar ak=>
  simp only[jR]
  split
  ·rename_i t cs ah
   split
   ·rename_i l Kb
    obtain⟨b,ad,rfl⟩:=ak t cs ah
    have an:=bb.c7 id _ ah
    cases an with
    |box t cs b' arr aC bf cg ek=>
     rw[ad]at aC;simp only[Value.pointer.injEq,Option.some.injEq,Addr.mk.injEq,and_true]at aC;subst aC
     have at_: ∀j x,l[j]? =some x→∃y,cs[off+j]? =some y∧uJ σ y=some x:=fun j x ag=>by
      obtain⟨y,aa,ae⟩:=Rr σ Kb ag;rw[List.getElem?_drop]at aa
      exact⟨y,aa,ae⟩
     refine .av _ _ (.ptr l _ (fun j=>arr.getD (off+j) undef) (fun j x ag=>?_) fun j x ag=>?_)
     ·obtain⟨y,aa,_⟩:=at_ j x ag
      refine⟨.inr ⟨id,_,ah,rfl,by rw[ad];rfl⟩,?_⟩
      have bI:off+j<arr.size:=by rw[cg];exact(List.getElem?_eq_some_iff.1 aa).1
      rw[addLit,cell_of_row w b (off+j) arr t (0,0) bf];simp[bI]
     ·obtain⟨y,aa,ae⟩:=at_ j x ag
      exact zcX bb (ek _ y aa) ae
   ·exact .ptr id off c ar ak
  ·exact .ptr id off c ar ak
 |av x c h=>exact .av x c (h.keep (fun _ _=>rfl) fun _ h=>.inl h)
 |agg cs c aa _ a1=>
  refine .agg _ c (by rw[uK];exact aa) fun j x ag=>?_
  obtain⟨y,ax,rfl⟩:=uL σ ag;exact a1 j y ax
 |tuple cs c aa _ a1=>
  refine .tuple _ c (by rw[uK];exact aa) fun j x ag=>?_
  obtain⟨y,ax,rfl⟩:=uL σ ag;exact a1 j y ax
 |cW id i off c aa ae=>exact .cW id i off c aa ae
 |dA id n c aa ae=>exact .dA id n c aa ae
 |fn f p q c d aa ae _ _ hh hj=>
  refine .fn f _ _ c d (by rw[uK];exact aa) (by rw[uK];exact ae) (fun j x ag=>?_) (fun j x ag=>?_)
  ·obtain⟨y,ax,rfl⟩:=uL σ ag
   exact hh j y ax
  ·obtain⟨y,ax,rfl⟩:=uL σ ag
   exact hj j y ax
 |ref id c ar ak=>
  simp only[jR]
  split
  ·rename_i bN ah
   split
   ·rename_i av aw
    rw[ak bN ah];exact .av _ _ (Rt bb ah aw)
   ·exact .ref id c ar ak
  ·exact .ref id c ar ak
 |top c=>exact .top c
mutual
def jS:aD→Bool
 | .av (.v _)=>true
 | .agg cs=>nd cs
 | .tuple cs=>nd cs
 |_=>false
def nd:List aD→Bool
 |[]=>true
 |x::r=>jS x&&nd r
end
theorem Dj: ∀{cs:List aD},nd cs=true→∀{j:Nat} {x:aD},cs[j]? =some x→jS x=true
 |[],_,j,x,h=>by simp at h
 |y::r,ad,j,x,h=>by
  simp only[nd,Bool.and_eq_true]at ad
  cases j with
  |zero=>simp at h;subst h;exact ad.1
  |succ j=>simp at h;exact Dj ad.2 h
theorem Dk{w w':World}{ro ro':Nat→Prop}{σ bV:Heap}{β zv:Nat→Value}{N M:Nat}{x:aD}{c:Value}(h:bs w ro σ β N x c)(ak:jS x=true):bs w' ro' bV zv M x c:=by
 induction h with
 |av x c h=>
  cases h with
  |v _ hx=>exact .av _ _ (.v _ hx)
  |ptr=>simp[jS]at ak
  |aO=>simp[jS]at ak
  |mp=>simp[jS]at ak
  |ep=>simp[jS]at ak
  |li=>simp[jS]at ak
 |agg cs c aa _ a1=>
  simp only[jS]at ak;exact .agg cs c aa fun j x ag=>a1 j x ag (Dj ak ag)
 |tuple cs c aa _ a1=>
  simp only[jS]at ak;exact .tuple cs c aa fun j x ag=>a1 j x ag (Dj ak ag)
 |_=>simp[jS]at ak
section
variable {P:Program} {G:a8} {s:aP}
theorem dQ.Kc{o:Oper}{x:Operand}{xs:Array Operand}{ts:Array TypeId}(an:o.op= .call {callee:=.value x,args:=xs,argTypes:=ts}){f:FuncId}{p q:List aD}(hx:aL G s x= .fn (.func f) p q)
 (gC:m9 P f=true){args:List aD}(h3:h6 s.heap (p++xs.toList.map (aL G s)++q)=args)(o2:e4 args=true){r:aD}(hc:dF P G f args [] 0 fun dv uN=>dv=r∧uN=[])(hsc:jS r=true):
 dQ P G o s (s.put o.dst r):=by
 intro E a w ⟨β,ro,h⟩ zco zcp JM
 have lH:=h.eval x
 rw[hx]at lH
 generalize he:a.eval x=JN at lH
 cases lH with
 |fn _ _ _ c d aa ae ak aJ=>
  unfold Oper.wp;simp only[execOp,an,resolve,he,Deferred.ofValue,Sem.run_bind,Sem.run_pure,Result.andThen_ok,invoke];rw[C4 gC]
  have nU: ∀b,Own s.heap β b→b<w.heap.size:=fun b ⟨k,p,aj,ak,bg⟩=>(h.heap.c7 k p aj).hJ ak bg
  have hlen:args.length=p.length+xs.size+q.length:=by rw[←h3,uK];simp[Nat.add_assoc]
  have dZ: ∀i y,(p++xs.toList.map (aL G s)++q)[i]? =some y→bs w ro s.heap β s.next y ((c++xs.map a.eval++d).getD i undef):=fun i y ax=>by
   rw[Array.getD_eq_getD_getElem?]
   rcases Nat.lt_or_ge i (p.length+xs.size)with hi|hi
   ·rw[List.getElem?_append_left (by simpa using hi)]at ax
    rw[Array.getElem?_append_left (by simpa[aa]using hi)]
    rcases Nat.lt_or_ge i p.length with my|my
    ·rw[List.getElem?_append_left my]at ax
     rw[Array.getElem?_append_left (by omega),←Array.getD_eq_getD_getElem?]
     exact ak i y ax
    ·rw[List.getElem?_append_right my,List.getElem?_map]at ax
     rw[Array.getElem?_append_right (by omega),aa]
     cases aQ:xs.toList[i-p.length]? with
     |none=>simp[aQ]at ax
     |some z=>
      simp only[aQ,Option.map_some,Option.some.injEq]at ax;subst ax
      have o9:xs[i-p.length]? =some z:=by simpa using aQ
      simp only[Array.getElem?_map,o9,Option.map_some,Option.getD_some]
      exact h.eval z
   ·rw[List.getElem?_append_right (by simpa using hi)]at ax
    rw[Array.getElem?_append_right (by simpa[aa]using hi),←Array.getD_eq_getD_getElem?]
    have:=aJ _ y ax
    simpa[aa]using this
  have hk:=hc w β (uM ro s.heap β) (c++xs.map a.eval++d) (by simp only[Array.size_append,Array.size_map];omega) (fun i y ax=>by
   rw[←h3]at ax;obtain⟨z,aQ,rfl⟩:=uL _ ax
   exact nX (Ka h.heap (dZ i z aQ)) (m8 o2 (by rw[←h3];exact ax))) ⟨by simp[aE],by simp[aE],fun b _ ⟨_,_,ah,_⟩=>by simp[aE]at ah,fun b ad=>ad.elim (h.heap.lt b) (nU b)⟩
   (h.ic.keep (fun _ _=>rfl) fun _ h=>.inl h) (by simp[aE])
  refine Calls.mono hk fun e w' aJ=>?_
  obtain⟨v,eR,fB,dL,ro',cJ,rfl,⟨rfl,rfl⟩,dB,hO,cE⟩:=aJ
  have k6: ∀b,¬Own ([]:Heap) β b:=fun b ⟨_,_,ah,_⟩=>by simp[aE]at ah
  have lI: ∀b,b<w.heap.size→w'.heap[b]? =w.heap[b]? :=fun b ad=>cE.frame b ad (k6 b)
  have ah:=h.grow (w':=w') (ro':=ro) cE.os cE.tape cE.output cE.size lI (fun _ h=>h) (fun _ h=>.inl h)
  exact JM _ _ ⟨β,ro,ah.put o.dst _ _ (Dk dB hsc)⟩
theorem zcY{o:Oper}{f:FuncId}{p q:Array Operand}(an:o.op= .makeFunc (.func f) p q):cN P G o s (.fn (.func f) (p.toList.map (aL G s)) (q.toList.map (aL G s))):=
 fun _ a w β ro af=>by
  refine⟨.func (.func f) (p.map a.eval) (q.map a.eval),by simp[execOp,an,Instr.makeFunc],.fn _ _ _ _ _ (by simp) (by simp) (fun j x ag=>?_) (fun j x ag=>?_)⟩<;>
  ·rw[List.getElem?_map]at ag
   rw[Array.getD_eq_getD_getElem?,Array.getElem?_map]
   simp only[Array.getElem?_toList]at ag
   obtain⟨z,aQ,rfl⟩:=Option.map_eq_some_iff.1 ag;simp only[aQ,Option.map_some,Option.getD_some];exact af.eval z
end
end Go.aM
namespace Go.aM
open Go
inductive Hint (P:Program) (G:a8):Type 1 where
 |run (n:Nat)
 |cast (u v:aD) (h:u=v)
 |idx {α:Type} (C:α→List a6) (l:List α) (n j:Nat) (e:α) (h:l[j]? =some e)
 |Ru (b:ByteArray) (j:Nat) (u:UInt8) (h:b.data.toList[j]? =some u)
 |len {α:Type} (C:α→List a6) (l:List α) (n:Nat)
 |call (f:FuncId) (args:List aD) (r:aD) (bV:Heap) (K:Nat) (h:dF P G f args [] 0 fun dv uN=>dv=r∧uN=bV)
 |take {α:Type} (C:α→List a6) (l:List α) (n k:Nat) (h:k≤l.length)
 |Rv {α:Type} (C:α→List a6) (l:List α) (e n:Nat)
 |app {α:Type} (C:α→List a6) (l m:List α) (id e n bytes:Nat) (h:l.length+m.length≤maxLen∧(l.length+m.length)*bytes≤140737488355328)
 |Rw (mx:Bool) (a b:Int)
 |lit (e n:Nat) (es:List (List a6))
 |row (e n:Nat) (es:List (List a6))
 |Rx (b:ByteArray)
 |zK (k:Nat) (m:List (Option Nat))
 |nc (id:Nat)
 |Ry {α:Type} (C:α→List a6) (l:List α) (id n j:Nat) (h:j<l.length)
 |Rz {α:Type} (C:α→List a6) (l:List α) (id n:Nat)
 |RA {α:Type} (C:α→List a6) (l:List α) (id n j off k:Nat) (e:α) (h:l[j]? =some e)
 |RB {α:Type} (C:α→List a6) (l:List α) (id n j off:Nat) (e:α) (h:l[j]? =some e)
 |mk {α:Type} (C:α→List a6) (d:α) (m c e n bytes:Nat) (h:m≤c∧c≤maxLen∧bytes*c≤281474976710656)
 |RD (j:Nat)
 |RE {α:Type} (C:α→List a6) (l:List α) (n:Nat) (lo hi:Option Nat) (aa:lo.getD 0≤hi.getD l.length) (ae:hi.getD l.length≤l.length)
 |RF (b:ByteArray) (lo hi:Option Nat) (aa:lo.getD 0≤hi.getD b.size) (ae:hi.getD b.size≤b.size)
 |slot (k:Nat) (u v:aD) (h:u=v)
 |Kd (k e n:Nat)
 |RG {α:Type} (C:α→List a6) (l:List α) (id n j off:Nat) (e:α) (h:l[j]? =some e)
 |RH {α:Type} (C:α→List a6) (l:List α) (id n j off:Nat) (e ay:α) (h:l[j]? =some e)
 |RI
 |Kc (f:FuncId) (p q args:List aD) (r:aD) (h:dF P G f args [] 0 fun dv uN=>dv=r∧uN=[])
def wS:a6→a6
 | .aO _ []=>.v (.slice none 0 0)
 | .li _ []=>.v (.slice none 0 0)
 |x=>x
theorem RJ{w:World}{ro:Nat→Prop}{x:a6}{v:Value}(h:wS x= .v v)(aw:v.oneCell'=true):cP w ro x v:=by
 unfold wS at h
 split at h
 ·rename_i n
  simp only[a6.v.injEq]at h;subst h;exact .aO n [] none 0 (fun _=>undef) (Nat.le_refl _) (Nat.zero_le _) (by simp) (by simp) (by simp)
 ·rename_i i
  simp only[a6.v.injEq]at h;subst h;exact .li i [] _ (.aO (bZ i) [] none 0 (fun _=>undef) (Nat.le_refl _) (Nat.zero_le _) (by simp) (by simp) (by simp))
 ·subst h
  exact .v _ aw
section
variable {P:Program} {G:a8} {o:Oper} {s:aP}
theorem zcZ{α:Type}(C:α→List a6)(d:α)(m c:Nat){t:TypeId}{x y:Operand}(an:o.op= .makeSlice t x y){e n bytes:Nat}(aI:ql P t=some (e,n,bytes)){zs:List Value}(aQ:zeroCells P e=some zs)(sK:zs.all Value.oneCell'=true)
 (hd:zs.map a6.v=(C d).map wS)(hx:aL G s x=iM (m:Int))(ax:aL G s y=iM (c:Int))(bP:m≤c∧c≤maxLen∧bytes*c≤281474976710656):
 wJ P G o s e n ((List.replicate m d).map C):=by
 obtain⟨i,z,hu,hi,RK,iw,js,e9,hn⟩:=p8 aI
 obtain⟨iv,_,oY,zz,hl,o9⟩:=zn (P:=P) aQ default
 have RL:z.cells=zs.toArray:=by
  rw[hi]at hl;simp only[Option.some.injEq]at hl;subst hl;rw[RK]at o9;simp only[Option.some.injEq]at o9;subst o9;exact oY
 have mr:zs.length=n:=by rw[←e9,RL];simp
 have nZ:(C d).length=n:=by rw[←mr];have:=congrArg List.length hd;simpa using this.symm
 have nT: ∀q∈(List.replicate m d).map C,q.length=n:=by
  intro q aJ;rw[List.mem_map]at aJ;obtain⟨u,hu,rfl⟩:=aJ;rw[List.mem_replicate]at hu;rw[hu.2];exact nZ
 refine⟨nT,fun E a w β ro af=>?_⟩
 have Ke:(c:Int)≤9223372036854775807:=by
  have h:=bP.2.1
  simp only[maxLen]at h;omega
 have zG:(i.bytes:Int)*(c:Int)≤281474976710656:=by
  have h:((i.bytes*c:Nat):Int)≤281474976710656:=by rw[js];have:=bP.2.2;omega
  rwa[Int.natCast_mul]at h
 have cp:=run_make (P:=P) w t e i z hu hi RK .i64 .i64 (m:Int) (c:Int) (by omega) (by have:=bP.1;omega) zG Ke
 simp only[Int.toNat_natCast,iw]at cp
 refine⟨.slice (some ⟨w.heap.size,0,none⟩) m c,(madeCells z.cells (c*n)).toList.take (m*n),_,by simp only[execOp,an,af.ec hx,af.ec ax,Sem.run_bind,cp,Result.andThen_ok,Sem.run_pure],⟨?_,.inr ⟨w.heap.size,c,madeCells z.cells (c*n),by rw[List.length_map,List.length_replicate],Nat.zero_le _,heap_alloc_new w _,by rw[List.length_map,List.length_replicate];exact bP.1,bP.2.1,size_madeCells _ _,by rw[List.length_map,List.length_replicate]⟩⟩,World.grownBy_alloc w _ none,fun b bg=>?_,fun j x ag=>?_⟩
 ·rw[List.length_take,Array.length_toList,size_madeCells,List.length_map,List.length_replicate,Nat.min_eq_left (Nat.mul_le_mul_right _ bP.1)]
 ·simp only[b4]at bg
  split at bg
  ·cases bg
  ·simp at bg;omega
 ·have cL:j<m*n:=by
   have:=(List.getElem?_eq_some_iff.1 ag).1
   rwa[j8 nT,List.length_map,List.length_replicate]at this
  have hm:j=(j/ n)*n+j%n:=by rw[Nat.mul_comm];exact(Nat.div_add_mod j n).symm
  have nY:j%n<n:=Nat.mod_lt _ hn
  have zc0:j/ n<m:=by rw[Nat.div_lt_iff_lt_mul hn];exact cL
  rw[hm,re nT (i:=j/ n) (e:=C d) (by simp[zc0]) (j%n) nY]at ag
  have au:j%n<zs.length:=by omega
  have zm:j<c*n:=Nat.lt_of_lt_of_le cL (Nat.mul_le_mul_right _ bP.1)
  have aC:((madeCells z.cells (c*n)).toList.take (m*n)).getD j undef=zs[j%n]:=by
   simp[List.getD,cL,madeCells,RL,zm,mr,List.getElem?_eq_getElem au]
  rw[aC]
  have RM:=congrArg (·[j%n]?) hd
  simp only[List.getElem?_map,ag,List.getElem?_eq_getElem au,Option.map_some,Option.some.injEq]at RM
  refine RJ RM.symm ?_
  rw[List.all_eq_true]at sK;exact sK _ (List.getElem_mem au)
end
section
variable {P:Program} {G:a8} {o:Oper} {s:aP}
theorem RN(j:Nat){t:TypeId}{x i:Operand}(an:o.op= .index t x i){len e:Nat}(hu:P.underlying t=some (.array len e))(hsc:scalar P e=true)(bP:(P.info? e).map (·.size)=some 1)(hi:aL G s i=iM (j:Int)){cs:List aD}(hx:aL G s x= .agg cs){v:aD}(aw:cs[j]? =some v)(ag:j<len):cN P G o s v:=
 fun _ a w β ro af=>by
  have h:=af.eval x
  rw[hx]at h;generalize he:a.eval x=c at h
  cases h with
  |agg _ c ai hc=>
   have bI:j<c.size:=by have:=(List.getElem?_eq_some_iff.1 aw).1;omega
   have zC:(sizeOf e).run P w= .ok 1 w:=by
    cases hi:P.info? e with
    |none=>simp[hi]at bP
    |some i=>simp[hi]at bP;simp[sizeOf,typeInfo,hi,bP]
   refine⟨c[j],?_,by simpa[bI]using hc _ v aw⟩
   simp[execOp,an,he,af.ec hi,Instr.index,asIntOf,run_underlying hu,zC,part,zh hsc,bI,ag]
end
section
variable {P:Program} {G:a8}
def Dl:Hint P G→aD
 | .run _=>.top
 | .cast u _ _=>u
 | .idx C l n j _ _=>.tuple [.av (.aO n (l.map C)),iM (j:Int)]
 | .Ru b j _ _=>.tuple [vs b,iM (j:Int)]
 | .len C l n=>.av (.aO n (l.map C))
 | .call f args _ _ _ _=>.tuple (.fn (.func f) [] []::args)
 | .take C l n k _=>.tuple [.av (.aO n (l.map C)),iM (k:Int)]
 | .Rv C l _ n=>.av (.aO n (l.map C))
 | .app C l m id _ n _ _=>.tuple [.aO id,.av (.aO n (l.map C)),.av (.aO n (m.map C))]
 | .Rw _ a b=>.tuple [iM a,iM b]
 | .lit _ n es=>.av (.aO n es)
 | .row _ n es=>.av (.aO n es)
 | .Rx b=>vs b
 | .zK _ _=>.top
 | .nc _=>.top
 | .Ry C l id n j _=>.tuple [.aO id,.av (.aO n (l.map C)),iM (j:Int)]
 | .Rz C l id n=>.tuple [.aO id,.av (.aO n (l.map C))]
 | .RA C l id n j off _ _ _=>.tuple [.cW id j off,.av (.aO n (l.map C))]
 | .RB C l id n j off _ _=>.tuple [.cW id j off,.av (.aO n (l.map C))]
 | .mk C d m c _ _ _ _=>.tuple [iM (m:Int),iM (c:Int),.av (.ptr ((C d).map wS))]
 | .RD j=>iM (j:Int)
 | .RE C l n lo hi _ _=>.tuple [.av (.aO n (l.map C)),(match lo with|some k=>iM (k:Int)|none=>.top),(match hi with|some k=>iM (k:Int)|none=>.top)]
 | .RF b lo hi _ _=>.tuple [vs b,(match lo with|some k=>iM (k:Int)|none=>.top),(match hi with|some k=>iM (k:Int)|none=>.top)]
 | .slot _ u _ _=>u
 | .Kd _ _ _=>.top
 | .RG C l id n j off _ _=>.tuple [.cW id j off,.av (.aO n (l.map C))]
 | .RH C l id n j off _ ay _=>.tuple [.cW id j off,.av (.aO n (l.map C)),.av (.ptr (C ay))]
 | .RI=>.top
 | .Kc f p q args _ _=>.tuple (.fn (.func f) p q::args)
def rowOf(σ:Heap)(id n:Nat):Option (TypeId × List (List a6)):=
 match aE σ id with
 |some (.row false t m es)=>match Nat.beq m n with
  |true=>some (t,es)
  |false=>none
 |_=>none
def qt(P:Program)(G:a8)(o:Oper)(s:aP):Hint P G→Option (aD × aP)
 | .cast _ v _=>match rD P G o s with
  |some a=>some (a,s.put o.dst v)
  |none=>none
 | .idx C _ n _ e _=>match o.op with
  | .indexAddr t x i=>match kc P t with
   |some cJ=>match Nat.beq cJ n with
    |true=>some (.tuple [aL G s x,aL G s i],s.put o.dst (.av (.ptr (C e))))
    |false=>none
   |none=>none
  |_=>none
 | .Ru _ _ u _=>match o.op with
  | .index t x i=>match isStr P t with
   |true=>some (.tuple [aL G s x,aL G s i],s.put o.dst (.av (.v (.int .u8 (u.toNat:Int)))))
   |false=>none
  |_=>none
 | .len _ l _=>match o.op with
  | .call c=>match c.callee,c.args.toList,c.argTypes.toList with
   | .builtin .len,[x],[t]=>match isSlice P t with
    |true=>some (aL G s x,s.put o.dst (iM (l.length:Int)))
    |false=>none
   |_,_,_=>none
  |_=>none
 | .call f _ r bV K _=>match o.op with
  | .call c=>match c.callee with
   | .value x=>match m9 P f&&(e4 (c.args.toList.map fun y=>hN s.heap (aL G s y))&&(gB K r&&(k4 K bV&&Nat.ble s.base s.next)))with
    |true=>some (.tuple (aL G s x::c.args.toList.map fun y=>hN s.heap (aL G s y)),{s with heap:=k5 s.next bV++s.heap,next:=s.next+K}.put o.dst (qj s.next r))
    |false=>none
   |_=>none
  |_=>none
 | .take C l n k _=>match o.op with
  | .slice t x none (some y) none=>match kc P t with
   |some cJ=>match Nat.beq cJ n with
    |true=>some (.tuple [aL G s x,aL G s y],s.put o.dst (.av (.aO n ((l.take k).map C))))
    |false=>none
   |none=>none
  |_=>none
 | .Rv _ _ _ _=>none
 | .app C l m id e n bytes _=>match o.op with
  | .call c=>match c.callee,c.args.toList,c.argTypes.toList with
   | .builtin .append,[x,y],[t,bz]=>match ql P t with
    |some (ay,cJ,b')=>match Nat.beq t bz&&(Nat.beq ay e&&(Nat.beq cJ n&&(Nat.beq b' bytes&&(Nat.ble s.base id&&Nat.blt id s.next)))),rowOf s.heap id n with
     |true,some (bf,es)=>match Nat.beq bf e with
      |true=>some (.tuple [aL G s x,.av (.aO n es),aL G s y],aP.put ⟨ed id s.cQ,(id,.row false e n ((l++m).map C))::du id s.heap,s.next,s.base⟩ o.dst (.aO id))
      |false=>none
     |_,_=>none
    |none=>none
   |_,_,_=>none
  |_=>none
 | .Rw mx a b=>match o.op with
  | .call c=>match c.callee,c.args.toList,mx with
   | .builtin .min,[x,y],false=>some (.tuple [aL G s x,aL G s y],s.put o.dst (iM (if b<a then b else a)))
   | .builtin .max,[x,y],true=>some (.tuple [aL G s x,aL G s y],s.put o.dst (iM (if b>a then b else a)))
   |_,_,_=>none
  |_=>none
 | .lit e n es=>match o.op with
  | .buildSlice t len parts=>match n2 P G s t len parts.toList with
   |some (ay,cJ,dP)=>match Nat.beq ay e&&Nat.beq cJ n with
    |true=>some (.av (.aO n dP),s.put o.dst (.av (.aO n es)))
    |false=>none
   |none=>none
  |_=>none
 | .row e n es=>match o.op with
  | .buildSlice t len parts=>match n2 P G s t len parts.toList with
   |some (ay,cJ,dP)=>match Nat.beq ay e&&(Nat.beq cJ n&&Nat.ble s.base s.next)with
    |true=>some (.av (.aO n dP),{s with heap:=(s.next,.row false e n es)::s.heap,next:=s.next+1}.put o.dst (.aO s.next))
    |false=>none
   |none=>none
  |_=>none
 | .Rx b=>match o.op with
  | .range t x=>match isStr P t&&Nat.ble s.base s.next with
   |true=>some (aL G s x,{s with heap:=(s.next,.bM (qo b 0))::s.heap,next:=s.next+1}.put o.dst (.ref s.next))
   |false=>none
  |_=>none
 | .Ry _ _ id n j _=>match o.op with
  | .indexAddr t x i=>match kc P t,rowOf s.heap id n with
   |some cJ,some (_,es)=>match Nat.beq cJ n with
    |true=>some (.tuple [aL G s x,.av (.aO n es),aL G s i],s.put o.dst (.cW id j 0))
    |false=>none
   |_,_=>none
  |_=>none
 | .Rz _ l id n=>match o.op with
  | .call c=>match c.callee,c.args.toList,c.argTypes.toList with
   | .builtin .len,[x],[t]=>match isSlice P t,rowOf s.heap id n with
    |true,some (_,es)=>some (.tuple [aL G s x,.av (.aO n es)],s.put o.dst (iM (l.length:Int)))
    |_,_=>none
   |_,_,_=>none
  |_=>none
 | .RA C _ id n _ off k e _=>match o.op with
  | .load t x=>match mi P t,rowOf s.heap id n with
   |some bk,some (_,es)=>match Nat.beq bk k&&(Nat.ble 1 k&&Nat.ble k ((C e).drop off).length)with
    |true=>some (.tuple [aL G s x,.av (.aO n es)],s.put o.dst (.agg ((((C e).drop off).map aD.av).take k)))
    |false=>none
   |_,_=>none
  |_=>none
 | .RB C _ id n _ off e _=>match o.op with
  | .load t x=>match scalar P t,rowOf s.heap id n,(C e).drop off with
   |true,some (_,es),v::_=>some (.tuple [aL G s x,.av (.aO n es)],s.put o.dst (.av v))
   |_,_,_=>none
  |_=>none
 | .RE C l n lo hi _ _=>match o.op with
  | .slice t x zM zN none=>match kc P t,zM.isSome==lo.isSome&&zN.isSome==hi.isSome with
   |some cJ,true=>match Nat.beq cJ n with
    |true=>some (.tuple [aL G s x,(match zM with|some y=>aL G s y|none=>.top),(match zN with|some y=>aL G s y|none=>.top)],s.put o.dst (.av (.aO n (((l.take (hi.getD l.length)).drop (lo.getD 0)).map C))))
    |false=>none
   |_,_=>none
  |_=>none
 | .RF b lo hi _ _=>match o.op with
  | .slice t x zM zN none=>match isStr P t&&(zM.isSome==lo.isSome&&zN.isSome==hi.isSome)with
   |true=>some (.tuple [aL G s x,(match zM with|some y=>aL G s y|none=>.top),(match zN with|some y=>aL G s y|none=>.top)],s.put o.dst (vs (b.extract (lo.getD 0) (hi.getD b.size))))
   |false=>none
  |_=>none
 | .RD j=>match o.op with
  | .index t x i=>match P.underlying t,aL G s x with
   |some (.array len e),.agg cs=>match cs[j]?,scalar P e&&(Nat.blt j len&&((P.info? e).map (·.size)==some 1))with
    |some v,true=>some (aL G s i,s.put o.dst v)
    |_,_=>none
   |_,_=>none
  |_=>none
 | .mk C d m _ e n bytes _=>match o.op with
  | .makeSlice t x y=>match ql P t,zeroCells P e with
   |some (ay,cJ,b'),some zs=>match Nat.beq ay e&&(Nat.beq cJ n&&(Nat.beq b' bytes&&(zs.all Value.oneCell'&&Nat.ble s.base s.next)))with
    |true=>some (.tuple [aL G s x,aL G s y,.av (.ptr (zs.map a6.v))],{s with heap:=(s.next,.row false e n ((List.replicate m d).map C))::s.heap,next:=s.next+1}.put o.dst (.aO s.next))
    |false=>none
   |_,_=>none
  |_=>none
 | .RG _ _ id n j off _ _=>match o.op with
  | .fieldAddr t x f=>match sJ P t f,rowOf s.heap id n with
   |some k,some (_,es)=>some (.tuple [aL G s x,.av (.aO n es)],s.put o.dst (.cW id j (off+k)))
   |_,_=>none
  |_=>none
 | .RH C l id n j off e ay _=>match o.op with
  | .store t p x=>match rowOf s.heap id n,iL (cR (aL G s x))with
   |some (bt,es),some vs=>match((P.info? t).map (·.size)==some vs.length)&&Nat.ble (off+vs.length) n with
    |true=>some (.tuple [aL G s p,.av (.aO n es),.av (.ptr (ei (C e) off vs))],{s with heap:=eO s.heap id (.row false bt n ((l.set j ay).map C))}.put o.dst .top)
    |false=>none
   |_,_=>none
  |_=>none
 | .RI=>match o.op with
  | .makeFunc (.func f) p q=>some (.top,s.put o.dst (.fn (.func f) (p.toList.map (aL G s)) (q.toList.map (aL G s))))
  |_=>none
 | .Kc f p q _ r _=>match o.op with
  | .call c=>match c.callee with
   | .value x=>match m9 P f&&(e4 (h6 s.heap (p++c.args.toList.map (aL G s)++q))&&jS r)with
    |true=>some (.tuple (aL G s x::h6 s.heap (p++c.args.toList.map (aL G s)++q)),s.put o.dst r)
    |false=>none
   |_=>none
  |_=>none
 |_=>none
theorem RO{α:Type}{a:Array α}{x:α}(h:a.toList=[x]):a= #[x]:=by apply Array.ext';simpa using h
theorem zO{α:Type}{a:Array α}{x y:α}(h:a.toList=[x,y]):a= #[x,y]:=by apply Array.ext';simpa using h
end
end Go.aM
