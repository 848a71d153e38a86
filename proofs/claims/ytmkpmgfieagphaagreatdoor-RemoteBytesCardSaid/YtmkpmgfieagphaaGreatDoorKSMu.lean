/- The AV calculus, part K: append, make, cuts of slices and strings, small builtins, conversions. Conditions: none. -/
import Derived.Test.YtmkpmgfieagphaaGreatDoorKSMj
import Derived.Maps.AppendAt
import Derived.Orders
import Derived.Laws.RangeString
import Derived.Laws.RangeAny
namespace Go.aL
open Go
def fx(σ:Heap)(n:Nat):aD→Option (List (List a6))
 | .av (.aO m es)=>if m=n then some es else none
 | .av (.v (.slice none 0 0))=>some []
 | .av (.li i l)=>if bZ i=n then some (l.map (cb i))else none
 | .aO id=>match aE σ id with
  |some (.row _ _ m es)=>if m=n then some es else none
  |_=>none
 |_=>none
section
variable {P:Program} {G:a8} {o:Oper} {s:aP}
theorem cR.elems{w:World}{ro:Nat→Prop}{n:Nat}{es:List (List a6)}{c:Value}(h:cR w ro (.aO n es) c):
 ∃b cap,c= .slice b es.length cap∧(∀e∈es,e.length=n)∧(b=none→es=[])∧∃f:Nat→Value,(∀a,b=some a→∀j,j<es.length*n→w.cell? (a.add j)=some (f j))∧∀j x,es.flatten[j]? =some x→cR w ro x (f j):=by
 cases h with
 |aO _ _ b cap f aa ae au aQ bF=>
  refine⟨b,cap,rfl,au,fun ad=>?_,f,fun a a1 j af=>?_,bF⟩
  ·rcases Nat.eq_zero_or_pos es.length with h|h
   ·exact List.eq_nil_of_length_eq_zero h
   ·obtain⟨a,a1,_⟩:=aQ h
    rw[ad]at a1;cases a1
  ·have ak:0<es.length:=by
    rcases Nat.eq_zero_or_pos es.length with h|h
    ·rw[h]at af;simp at af
    ·exact h
   obtain⟨bc,Kq,hc⟩:=aQ ak;rw[a1]at Kq;simp only[Option.some.injEq]at Kq;subst Kq;exact(hc j af).2
theorem w3{w:World}{ro:Nat→Prop}{σ:Heap}{β:Nat→Value}{N:Nat}(bb:hj w ro σ β N){x:aD}{c:Value}(h:bs w ro σ β N x c){n:Nat}{es:List (List a6)}(he:fx σ n x=some es):
 ∃b cap,c= .slice b es.length cap∧(∀e∈es,e.length=n)∧(b=none→es=[])∧∃f:Nat→Value,(∀a,b=some a→∀j,j<es.length*n→w.cell? (a.add j)=some (f j))∧∀j x,es.flatten[j]? =some x→cR w ro x (f j):=by
 cases h with
 |av x c hx=>
  cases x with
  |v y=>
   cases hx
   cases c with
   |slice a l h1=>
    cases a with
    |none=>
     cases l with
     |zero=>
      cases h1 with
      |zero=>
       simp[fx]at he;subst he;exact⟨none,0,rfl,by simp,fun _=>rfl,fun _=>undef,by simp,by simp⟩
      |succ=>simp[fx]at he
     |succ=>simp[fx]at he
    |some=>simp[fx]at he
   |_=>simp[fx]at he
  |ptr=>simp[fx]at he
  |mp=>simp[fx]at he
  |et=>simp[fx]at he
  |li i l=>
   simp only[fx]at he
   split at he
   ·rename_i hm
    subst hm;simp only[Option.some.injEq]at he;subst he
    cases hx with
    |li _ _ _ hx=>exact hx.elems
   ·cases he
  |aO m dQ=>
   simp only[fx]at he
   split at he
   ·rename_i hm
    subst hm;simp only[Option.some.injEq]at he;subst he;exact hx.elems
   ·cases he
 |aO id c aq ak=>
  simp only[fx]at he
  split at he
  ·rename_i z t m dQ ah
   split at he
   ·rename_i hm
    subst hm;simp only[Option.some.injEq]at he;subst he;rw[ak z t _ _ ah]
    have dh:=bb.c6 id _ ah
    cases dh with
    |row _ _ _ xs aa ae au=>
     rcases aa.2 with⟨⟨b,aw,_⟩,aS⟩|⟨g,cap,cur,aw,hc,zdA,hle,ig,dJ,lJ⟩
     ·have:dQ=[]:=List.eq_nil_of_length_eq_zero aS
      subst this;rw[aw];exact⟨b,0,rfl,by simp,fun _=>rfl,fun _=>undef,by simp,by simp⟩
     ·rw[aw]
      refine⟨_,_,rfl,ae,by simp,fun j=>xs.getD j undef,fun a a1 j af=>?_,au⟩
      simp only[Option.some.injEq]at a1;subst a1;rw[addLit,Nat.zero_add,cell_of_row w g j cur t (0,0) zdA]
      have hx:xs[j]? =cur[j]? :=by rw[←lJ,List.getElem?_take,if_pos af];simp
      have jL:j<xs.length:=by rw[aa.1];exact af
      rw[←hx];simp[List.getD,List.getElem?_eq_getElem jL]
    |gb _ _ _ aa=>exact aa.elems
   ·cases he
  ·cases he
 |_=>simp[fx]at he
theorem DA{w:World}(t ty e:TypeId){i:TypeInfo}{z:Value}{n bytes:Nat}(aH:P.underlying t=some (.slice e))(hi:P.info? e=some i)(aS:i.zero=some z)(ix:i.size=n)(js:i.bytes=bytes)(fa:z.cells.size=n)(hn:0<n)
 {v:Value}{len:Nat}{xs:List Value}(cZ:ib w e n v len xs){b:Option Addr}{m cap:Nat}{news:List Value}(aq:news.length=m*n)(ad:b=none→m=0)(zdB: ∀a,b=some a→∀j u,news[j]? =some u→w.cell? (a.add j)=some u)
 (aa: ∀u∈news,u.oneCell'=true)(sV:len+m≤maxLen)(zZ:(len+m)*bytes≤140737488355328):
 ∃bh w',(Builtin.append_ #[t,t] ty #[v,.slice b m cap]).run P w= .ok bh w'∧ib w' e n bh (len+m) (xs++news)∧w.grownBy w' (b3 v)∧(∀k,b3 bh=some k→b3 v=some k∨w.heap.size≤k):=by
 by_cases hm:m=0
 ·subst hm
  have rK:news=[]:=List.eq_nil_of_length_eq_zero (by simpa using aq)
  subst rK;refine⟨v,w,?_,by simpa using cZ,World.grownBy.refl w _,fun k aj=>.inl aj⟩
  have DB:(Builtin.firstCells n 0 (.slice b 0 cap)).run P w= .ok #[] w:=by
   cases b with
   |none=>simp[Builtin.firstCells]
   |some a=>simp[Builtin.firstCells,loadCells,loadCellsFrom]
  rcases cZ.2 with⟨⟨c,rfl,_⟩,rfl⟩|⟨g,h1,cur,rfl,_,_,hle,_⟩
  ·cases c<;>simp[Builtin.append_,run_underlying aH,sizeOf,typeInfo,hi,ix,Builtin.lenOf,DB,storeCells]
  ·simp[Builtin.append_,run_underlying aH,sizeOf,typeInfo,hi,ix,Builtin.lenOf,DB,storeCells,hle]
 ·cases b with
  |none=>exact absurd (ad rfl) hm
  |some a=>
   have eW:=zdB a rfl
   have own:w.ownsRow 0 e n v len xs→_:=fun hB=>run_append_own_at (P:=P) w 0 t ty e i z n bytes aH hi aS ix js fa hn v len xs hB a m cap news aq eW aa sV zZ (Nat.zero_le _)
   have fin:w.ownsRow 0 e n v len xs→v.ownBlock=b3 v→∃bh w',(Builtin.append_ #[t,t] ty #[v,.slice (some a) m cap]).run P w= .ok bh w'∧ib w' e n bh (len+m) (xs++news)∧w.grownBy w' (b3 v)∧(∀k,b3 bh=some k→b3 v=some k∨w.heap.size≤k):=by
    intro hB bg;obtain⟨bh,w',g1,g2,g3,_,g5⟩:=own hB;refine⟨bh,w',g1,.Dz g2,bg ▸ g3,fun k aj=>?_⟩
    have eB:bh.ownBlock=some k:=by
     cases bh with
     |slice c l p=>
      cases c with
      |none=>simp[b3]at aj
      |some c=>
       simp only[b3]at aj
       split at aj
       ·cases aj
       ·simpa[Value.ownBlock]using aj
     |pointer c=>
      rcases g2.2 with⟨h,_⟩|⟨_,_,_,h,_⟩<;>cases h
     |map c=>
      rcases g2.2 with⟨h,_⟩|⟨_,_,_,h,_⟩<;>cases h
     |_=>simp[b3]at aj
    rcases g5 with h|h
    ·rw[h,bg]at eB;exact .inl eB
    ·rw[h]at eB;simp at eB;exact .inr (by omega)
   rcases cZ.2 with⟨⟨c,rfl,_⟩,rfl⟩|⟨g,h1,cur,rfl,z1,ah,hle,ig,dJ,lJ⟩
   ·have hx:xs=[]:=List.eq_nil_of_length_eq_zero (by simpa using cZ.1)
    subst hx
    cases c with
    |none=>exact fin (World.ownsRow_nil w 0 e n) rfl
    |some c=>
     have cU:=run_append_grow (P:=P) w t ty e i z aH hi aS c 0 0 [] (by simp) (by simp) a m cap news (by rw[ix];exact aq) eW (by omega) (by simp only[maxLen]at sV;omega) (growslice_fits (by omega) (by rw[js];exact zZ))
     have hB:=World.ownsRow_made (e:=e) (size:=n) w.drew (news.toArray++Builtin.zeroCells z.cells (grownCap w (0+m) 0 e-(0+m))) (grownCap w (0+m) 0 e) (base:=0) (Nat.zero_le _) (grownCap_le_maxLen w (0+m) 0 e sV) (by
      have:=grownCap_ge w (0+m) 0 e
      simp only[Array.size_append,List.size_toArray,size_zeroCells,fa,aq,←Nat.add_mul]
      congr 1
      omega)
     refine⟨_,_,cU,?_,⟨rfl,rfl,rfl,by simp,fun k aj _=>Go.RowKit.Below.heap_alloc w.drew _ k aj⟩,fun k aj=>?_⟩
     ·have hX:=grownCap_ge w (0+m) 0 e
      refine⟨by simp[aq],.inr ⟨w.heap.size,grownCap w (0+m) 0 e,_,rfl,by omega,heap_alloc_new w.drew _,hX,grownCap_le_maxLen w (0+m) 0 e sV,?_,?_⟩⟩
      ·simp only[Array.size_append,List.size_toArray,size_zeroCells,fa,aq,←Nat.add_mul,List.length_nil,Nat.zero_add]at hX⊢
       congr 1
       omega
      ·simp only[Array.toList_append,List.nil_append,Nat.zero_add]
       rw[←aq];exact List.take_left
     ·simp only[b3]at aj
      split at aj
      ·cases aj
      ·simp at aj;exact .inr (by omega)
   ·exact fin ⟨cZ.1,.inr ⟨g,h1,cur,rfl,Nat.zero_le _,ah,hle,ig,dJ,lJ⟩⟩ (by simp[Value.ownBlock,b3,Nat.ne_of_gt z1])
def qq(P:Program)(t:TypeId):Option (Nat × Nat × Nat):=
 match P.underlying t with
 |some (.slice e)=>match P.info? e with
  |some i=>match i.zero with
   |some z=>if z.cells.size=i.size∧0<i.size then some (e,i.size,i.bytes)else none
   |none=>none
  |none=>none
 |_=>none
theorem qd{t e n bytes:Nat}(h:qq P t=some (e,n,bytes)): ∃i z,P.underlying t=some (.slice e)∧P.info? e=some i∧i.zero=some z∧i.size=n∧i.bytes=bytes∧z.cells.size=n∧0<n:=by
 unfold qq at h
 split at h
 ·rename_i ay hu
  split at h
  ·rename_i i hi
   split at h
   ·rename_i z aS
    split at h
    ·rename_i hc
     simp only[Option.some.injEq,Prod.mk.injEq]at h;obtain⟨rfl,rfl,rfl⟩:=h;exact⟨i,z,hu,hi,aS,rfl,rfl,hc.1,hc.2⟩
    ·cases h
   ·cases h
  ·cases h
 ·cases h
theorem z6{w:World}{ro:Nat→Prop}{n:Nat}{es:List (List a6)}(hn: ∀e∈es,e.length=n){f:Nat→Value}(hf: ∀j x,es.flatten[j]? =some x→cR w ro x (f j)):
 ((List.range (es.length*n)).map f).length=es.length*n∧(∀u∈(List.range (es.length*n)).map f,u.oneCell'=true)∧∀j x,es.flatten[j]? =some x→cR w ro x (((List.range (es.length*n)).map f).getD j undef):=by
 refine⟨by simp,fun u hu=>?_,fun j x af=>?_⟩
 ·rw[List.mem_map]at hu
  obtain⟨j,af,rfl⟩:=hu;rw[List.mem_range]at af
  have aq:=j3 hn
  exact(hf j (es.flatten[j]'(by omega)) (by simp)).one
 ·have aq:=j3 hn
  have cM:=(List.getElem?_eq_some_iff.1 af).1
  have:j<es.length*n:=by omega
  simpa[List.getD,this]using hf j x af
theorem w4{w:World}{ro:Nat→Prop}{n:Nat}{es fs:List (List a6)}(hn: ∀e∈es,e.length=n){xs ys:List Value}(hx:xs.length=es.length*n)(aa: ∀j x,es.flatten[j]? =some x→cR w ro x (xs.getD j undef))
 (ae: ∀j x,fs.flatten[j]? =some x→cR w ro x (ys.getD j undef)): ∀j x,(es++fs).flatten[j]? =some x→cR w ro x ((xs++ys).getD j undef):=by
 intro j x af
 rw[List.flatten_append]at af
 have aq:=j3 hn
 by_cases h:j<es.flatten.length
 ·rw[List.getElem?_append_left h]at af
  have:=aa j x af
  rw[List.getD,List.getElem?_append_left (by omega)]
  exact this
 ·rw[List.getElem?_append_right (by omega)]at af
  have:=ae _ x af
  rw[List.getD,List.getElem?_append_right (by omega),hx,←aq]
  exact this
theorem zdC(x y:Operand)(t:TypeId)(an:o.op= .call {callee:=.builtin .append,args:=#[x,y],argTypes:=#[t,t]}){e n bytes:Nat}(aH:qq P t=some (e,n,bytes))
 {id:Nat}(hx:aJ G s x= .aO id){es:List (List a6)}(bd:aE s.heap id=some (.row false e n es))(ad:s.base≤id)(bH:id<s.next)
 {fs:List (List a6)}(ax:fx s.heap n (aJ G s y)=some fs)(bN:es.length+fs.length≤maxLen∧(es.length+fs.length)*bytes≤140737488355328):
 dR P G o s (aP.put ⟨eg id s.cS,(id,.row false e n (es++fs))::dv id s.heap,s.next,s.base⟩ o.dst (.aO id)):=by
 intro E a w ⟨β,ro,ag⟩ K Q hK
 obtain⟨i,z,hu,hi,aS,ix,js,fa,hn⟩:=qd aH
 obtain⟨b,cap,hc,mr,o7,f,h5,o8⟩:=w3 ag.heap (ag.eval y) ax
 have dh:=ag.heap.c6 id _ bd
 cases dh with
 |row _ _ _ xs cZ b4 eW=>
  have lN:a.eval x=β id:=by
   have h:=ag.eval x
   rw[hx]at h;generalize a.eval x=c at h
   cases h with
   |aO _ _ _ ak=>exact ak _ _ _ _ bd
  obtain⟨nZ,o9,rL⟩:=z6 mr o8
  obtain⟨bh,w',cr,kI,cU,bg⟩:=DA (P:=P) t o.type e hu hi aS ix js fa hn cZ (b:=b) (m:=fs.length) (cap:=cap) nZ (fun ad=>by rw[o7 ad];rfl)
   (fun bc a1 j u af=>by
    have cM:=(List.getElem?_eq_some_iff.1 af).1
    rw[nZ]at cM
    have aa:=h5 bc a1 j cM
    simp[cM]at af
    rw[aa,af]) o9 bN.1 bN.2
  unfold Oper.wp;simp only[execOp,an,resolve,invoke,builtin,Sem.run_bind,Sem.run_pure,Result.andThen_ok,List.map_toArray,List.map_cons,List.map_nil,lN,hc,cr]
  have jn: ∀k,k<w.heap.size→b3 (β id)≠some k→w'.heap[k]? =w.heap[k]? :=fun k aj b4=>cU.block k aj (fun e=>b4 e.symm)
  have cc: ∀k,ro k→w'.heap[k]? =w.heap[k]? :=fun k aj=>jn k (ag.heap.lt k aj) fun bg=>ag.heap.fh k aj ⟨id,_,bd,rfl,bg⟩
  refine hK _ _ ⟨gW β id bh,ro,c3.put (ag.renew (w':=w') id ad bH bd (.row false e n (es++fs)) bh cU.os cU.tape cU.output cU.size jn bg rfl ?_) o.dst _ _ ?_⟩
  ·refine .row e n _ _ (by rw[dS,List.length_append];exact kI) (fun ay j4=>?_) (fun j x af=>?_)
   ·rw[List.mem_append]at j4
    rcases j4 with h|h
    ·exact b4 _ h
    ·exact mr _ h
   ·exact(w4 b4 cZ.1 eW rL j x af).keep cc fun _ h=>h
  ·exact .aO _ _ bH fun z bD cJ dQ _=>(dS _ _ _).symm
theorem zdD(x y:Operand)(t:TypeId)(an:o.op= .call {callee:=.builtin .append,args:=#[x,y],argTypes:=#[t,t]}){e n bytes:Nat}(aH:qq P t=some (e,n,bytes))
 (hx:aJ G s x= .av (.v (.slice none 0 0)))(ad:s.base≤s.next)
 {fs:List (List a6)}(ax:fx s.heap n (aJ G s y)=some fs)(bN:fs.length≤maxLen∧fs.length*bytes≤140737488355328):
 dR P G o s ({s with heap:=(s.next,.row false e n fs)::s.heap,next:=s.next+1}.put o.dst (.aO s.next)):=by
 intro E a w ⟨β,ro,ag⟩ K Q hK
 obtain⟨i,z,hu,hi,aS,ix,js,fa,hn⟩:=qd aH
 obtain⟨b,cap,hc,mr,o7,f,h5,o8⟩:=w3 ag.heap (ag.eval y) ax
 obtain⟨nZ,o9,rL⟩:=z6 mr o8
 obtain⟨bh,w',cr,kI,cU,bg⟩:=DA (P:=P) (w:=w) t o.type e hu hi aS ix js fa hn (v:=.slice none 0 0) (len:=0) (xs:=[]) ⟨by simp,.inl ⟨⟨none,rfl,fun _ h=>(by cases h)⟩,rfl⟩⟩ (b:=b) (m:=fs.length) (cap:=cap) nZ (fun ad=>by rw[o7 ad];rfl)
  (fun bc a1 j u af=>by
   have cM:=(List.getElem?_eq_some_iff.1 af).1
   rw[nZ]at cM
   have aa:=h5 bc a1 j cM
   simp[cM]at af
   rw[aa,af]) o9 (by omega) (by rw[Nat.zero_add];exact bN.2)
 unfold Oper.wp
 simp only[execOp,an,resolve,invoke,builtin,Sem.run_bind,Sem.run_pure,Result.andThen_ok,List.map_toArray,List.map_cons,List.map_nil,ag.ef hx,hc,cr]
 have jm:aE s.heap s.next=none:=by
  cases ah:aE s.heap s.next with
  |none=>rfl
  |some p=>have:=ag.trans.new _ _ ah;omega
 have hw: ∀b,b<w.heap.size→w'.heap[b]? =w.heap[b]? :=fun b ad=>cU.block b ad (by simp[b3])
 have cc: ∀b,ro b→w'.heap[b]? =w.heap[b]? :=fun b ad=>hw b (ag.heap.lt b ad)
 refine hK _ _ ⟨gW β s.next bh,ro,c3.put (ag.new (w':=w') s.next jm ad (Nat.le_refl _) (.row false e n fs) bh cU.os cU.tape cU.output cU.size hw (fun b ad=>?_) rfl ?_) o.dst _ _ ?_⟩
 ·rcases bg b ad with h|h
  ·simp[b3]at h
  ·exact h
 ·refine .row e n _ _ (by rw[dS];simpa using kI) mr (fun j x af=>(rL j x af).keep cc fun _ h=>h)
 ·exact .aO _ _ (Nat.lt_succ_self _) fun z bD cJ dQ _=>(dS _ _ _).symm
theorem RP{cap len:Nat}{isS:Bool}{lo hi mx:Option Value}{l h m:Nat}(hm:(mx=none∧m=cap)∨∃k,mx=some (.int k (m:Int)))(bb:(hi=none∧mx=none∧h=len)∨∃k,hi=some (.int k (h:Int)))
 (aq:(lo=none∧l=0)∨∃k,lo=some (.int k (l:Int)))(aa:l≤h)(ae:h≤m)(au:m≤cap)(w:World):(Instr.sliceBounds isS len cap lo hi mx).run P w= .ok (l,h,m) w:=by
 rcases hm with⟨rfl,rfl⟩|⟨zjP,rfl⟩<;>rcases bb with⟨rfl,sW,rfl⟩|⟨zjQ,rfl⟩<;>rcases aq with⟨rfl,rfl⟩|⟨RQ,rfl⟩
 all_goals first
  |(cases sW;done)
  |simp[Instr.sliceBounds,Instr.sliceBound,asIntOf,aa,ae,au]
theorem DC (t : TypeId) (x : Operand) (lo hi : Option Operand) (an : o.op = .slice t x lo hi none) (aH : P.underlying t = some .string) {b : ByteArray} (hx : aJ G s x = .av (.v (.string b))) {l h : Nat}
    (aq : (lo = none ∧ l = 0) ∨ ∃ y k, lo = some y ∧ aJ G s y = .av (.v (.int k (l : Int)))) (bb : (hi = none ∧ h = b.size) ∨ ∃ y k, hi = some y ∧ aJ G s y = .av (.v (.int k (h : Int)))) (aa : l ≤ h) (ae : h ≤ b.size) :
    cQ P G o s (.av (.v (.string (b.extract l h)))) :=
  fun _ a w β ro ag => by
    have ad := RP (P := P) (cap := b.size) (len := b.size) (isS := false) (lo := lo.map a.eval) (hi := hi.map a.eval) (mx := none) (l := l) (h := h) (m := b.size) (.inl ⟨rfl, rfl⟩)
      (by rcases bb with ⟨rfl, rfl⟩ | ⟨y, k, rfl, ax⟩
          · exact .inl ⟨rfl, rfl, rfl⟩
          · exact .inr ⟨k, by simp [ag.ef ax]⟩)
      (by rcases aq with ⟨rfl, rfl⟩ | ⟨y, k, rfl, ax⟩
          · exact .inl ⟨rfl, rfl⟩
          · exact .inr ⟨k, by simp [ag.ef ax]⟩) aa ae (Nat.le_refl _) w
    exact ⟨_, by simp [execOp, an, ag.ef hx, Instr.sliceAt, run_underlying aH, Instr.slice, ad], .fE rfl⟩
theorem RR(src dst:TypeId)(x:Operand)(an:o.op= .convert src dst x)(ai:(P.underlying src).isSome=true){bk:IntKind}(hd:P.underlying dst=some (.int bk)){k:IntKind}{n:Int}(hx:aJ G s x= .av (.v (.int k n))):
 cQ P G o s (.av (.v (.int bk (bk.wrap n)))):=
 fun _ a w β ro ag=>by
  cases hu:P.underlying src with
  |none=>simp[hu]at ai
  |some d=>exact⟨_,by simp[execOp,an,ag.ef hx,convert,run_underlying hu,run_underlying hd,Conv.intToInt],.fE rfl⟩
theorem RS(x y:Operand)(ts:Array TypeId)(an:o.op= .call {callee:=.builtin .min,args:=#[x,y],argTypes:=ts}){k:IntKind}{m n:Int}(hx:aJ G s x= .av (.v (.int k m)))(ax:aJ G s y= .av (.v (.int k n))):
 cQ P G o s (.av (.v (.int k (if n<m then n else m)))):=
 fun _ a w β ro ag=>⟨.int k (if n<m then n else m),by simp[execOp,an,resolve,invoke,builtin,ag.ef hx,ag.ef ax,run_min_int2],.fE rfl⟩
theorem RT(x y:Operand)(ts:Array TypeId)(an:o.op= .call {callee:=.builtin .max,args:=#[x,y],argTypes:=ts}){k:IntKind}{m n:Int}(hx:aJ G s x= .av (.v (.int k m)))(ax:aJ G s y= .av (.v (.int k n))):
 cQ P G o s (.av (.v (.int k (if n>m then n else m)))):=
 fun _ a w β ro ag=>⟨.int k (if n>m then n else m),by simp[execOp,an,resolve,invoke,builtin,ag.ef hx,ag.ef ax,run_max_int2],.fE rfl⟩
theorem zdE(cw ty:TypeId)(x y:Operand)(an:o.op= .binOp .add cw x y ty){u v:ByteArray}(hx:aJ G s x= .av (.v (.string u)))(ax:aJ G s y= .av (.v (.string v)))(bN:u.size+v.size≤9223372036854775807):
 cQ P G o s (.av (.v (.string (u++v)))):=
 o2 .add cw ty x y an hx ax (by
  simp only[j5]
  rw[if_neg (by simp only[IntKind.max_i64];omega)])
end
end Go.aL
namespace Go.aL
open Go
def qt(s:aP)(o:Oper)(v:aD):Option aP:=some (s.put o.dst v)
def isStr(P:Program)(t:TypeId):Bool:=
 match P.underlying t with
 |some .string=>true
 |_=>false
def DD(P:Program)(t:TypeId):Bool:=
 match P.underlying t with
 |some .bool=>true
 |_=>false
theorem uX{P:Program}{t:TypeId}(h:isStr P t=true):P.underlying t=some .string:=by
 unfold isStr at h
 split at h
 ·assumption
 ·cases h
theorem DE{P:Program}{t:TypeId}(h:DD P t=true):P.underlying t=some .bool:=by
 unfold DD at h
 split at h
 ·assumption
 ·cases h
def Kr(P:Program)(G:a8)(b:Builtin)(xs:List Operand)(ts:List TypeId)(s:aP):Option aD:=
 match b,xs,ts with
 | .len,[x],[t]=>match lh s.heap (aJ G s x)with
  |some m=>if isSlice P t then some (.av (.v (.int .i64 (m:Int))))else none
  |none=>match aJ G s x with
   | .av (.v (.string b))=>if isStr P t then some (.av (.v (.int .i64 (b.size:Int))))else none
   |_=>match Dw P t with
    |some n=>some (.av (.v (.int .i64 (n:Int))))
    |none=>none
 | .min,[x,y],_=>match aJ G s x,aJ G s y with
  | .av (.v (.int k m)),.av (.v (.int bk n))=>if k=bk then some (.av (.v (.int k (if n<m then n else m))))else none
  |_,_=>none
 | .max,[x,y],_=>match aJ G s x,aJ G s y with
  | .av (.v (.int k m)),.av (.v (.int bk n))=>if k=bk then some (.av (.v (.int k (if n>m then n else m))))else none
  |_,_=>none
 |_,_,_=>none
def rM(P:Program)(G:a8)(o:Oper)(s:aP):Option aD:=
 match o.op with
 | .move x=>some (aJ G s x)
 | .assign x=>some (aJ G s x)
 | .load t x=>match fp s.heap (aJ G s x)with
  |some cs=>match mi P t with
   |some n=>if n≤cs.length∧0<n then some (.agg (cs.take n))else none
   |none=>if scalar P t then match cs with
    |y::_=>some y
    |[]=>none
    else none
  |none=>none
 | .fieldAddr t x f=>match sT P t f,jM s.heap (aJ G s x)with
  |some k,true=>some (ru k (aJ G s x))
  |_,_=>none
 | .nilCheck x=>match jM s.heap (aJ G s x)with
  |true=>some (aJ G s x)
  |false=>none
 | .field t x f=>match aJ G s x,w1 P t f with
  | .agg cs,some (off,none)=>match cs[off]? with
   |some v=>some v
   |none=>none
  | .agg cs,some (off,some n)=>if off+n≤cs.length then some (.agg ((cs.drop off).take n))else none
  |_,_=>none
 | .indexAddr t x i=>match aJ G s i with
  | .av (.v (.int _ (.ofNat j)))=>match j7 P t with
   |some n=>match mo s.heap n j (aJ G s x)with
    |some p=>some p
    |none=>none
   |none=>match uV P t,fp s.heap (aJ G s x)with
    |some (len,n),some _=>if j<len then match iP (j*n) (aJ G s x)with
     |some p=>some p
     |none=>none
     else none
    |_,_=>none
  |_=>none
 | .index t x i=>match aJ G s i,aJ G s x with
  | .av (.v (.int _ (.ofNat j))),.av (.v (.string b))=>if isStr P t then match b.data.toList[j]? with
   |some u=>some (.av (.v (.int .u8 (u.toNat:Int))))
   |none=>none
   else none
  |_,_=>none
 | .binOp op cw x y _=>match aJ G s x,aJ G s y with
  | .av (.v (.bool u)),.av (.v (.bool v))=>if DD P cw then match op with
   | .eql=>some (.av (.v (.bool (u==v))))
   | .neq=>some (.av (.v (.bool (!(u==v)))))
   |_=>none
   else none
  | .av (.v u),.av (.v v)=>match j5 op u v with
   |some c=>some (.av (.v c))
   |none=>none
  | .agg cs,.agg ds=>match m2 P cw,hC cs,hC ds with
   |some fs,some xs,some ys=>match zM P 0 fs xs ys with
    |some b=>match op with
     | .eql=>some (.av (.v (.bool b)))
     | .neq=>some (.av (.v (.bool (!b))))
     |_=>none
    |none=>none
   |_,_,_=>none
  |_,_=>none
 | .unOp op _ x=>match op,aJ G s x with
  | .not,.av (.v (.bool b))=>some (.av (.v (.bool (!b))))
  | .neg,.av (.v (.int k n))=>some (.av (.v (.int k (k.wrap (0-n)))))
  |_,_=>none
 | .pick c x y=>match aJ G s c with
  | .av (.v (.bool true))=>some (aJ G s x)
  | .av (.v (.bool false))=>some (aJ G s y)
  |_=>none
 | .extract x i=>match aJ G s x with
  | .tuple cs=>match cs[i]? with
   |some v=>some v
   |none=>none
  |_=>none
 | .build t parts=>match places P t,zeroCells P t with
  |some pl,some zs=>if zs.all Value.oneCell'∧(parts.toList.map fun p=>(p.1,aJ G s p.2)).all (fun p=>(cT p.2).all (eE s.heap))then
   match j8 pl (zs.map fun z=>.av (.v z)) (parts.toList.map fun p=>(p.1,aJ G s p.2))with
   |some ds=>some (.agg ds)
   |none=>none
   else none
  |_,_=>none
 | .call c=>match c.callee with
  | .builtin b=>Kr P G b c.args.toList c.argTypes.toList s
  |_=>none
 | .convert src dst x=>match aJ G s x,P.underlying dst with
  | .av (.v (.int _ n)),some (.int bk)=>if(P.underlying src).isSome then some (.av (.v (.int bk (bk.wrap n))))else none
  |_,_=>none
 |_=>none
def Ks(P:Program)(G:a8)(o:Oper)(s:aP):Option aP:=
 match rM P G o s with
 |some v=>qt s o v
 |none=>match o.op with
  | .store t p x=>match aJ G s p with
   | .ptr id off=>match aE s.heap id with
    |some (.box bt cs)=>if(cT (aJ G s x)).all (eE s.heap)∧(P.info? t).map (·.size)=some (cT (aJ G s x)).length∧off+(cT (aJ G s x)).length≤cs.length
     then qt {s with heap:=eN s.heap id (.box bt (en cs off (cT (aJ G s x))))} o .top else none
    |_=>none
   | .cW id i off=>match aE s.heap id with
    |some (.row false bt n es)=>match es[i]?,iQ (cT (aJ G s x))with
     |some e,some vs=>if(P.info? t).map (·.size)=some vs.length∧off+vs.length≤n then qt {s with heap:=eN s.heap id (.row false bt n (es.set i (en e off vs)))} o .top else none
     |_,_=>none
    |_=>none
   |_=>none
  | .alloc t=>match zeroCells P t with
   |some zs=>if zs.all Value.oneCell'∧s.base≤s.next then qt {s with heap:=(s.next,.box t (zs.map fun z=>.av (.v z)))::s.heap,next:=s.next+1} o (.ptr s.next 0)else none
   |none=>none
  | .box t x=>if(cT (aJ G s x)).all (eE s.heap)∧s.base≤s.next then qt {s with heap:=(s.next,.box t (cT (aJ G s x)))::s.heap,next:=s.next+1} o (.ptr s.next 0)else none
  |_=>none
section
variable {P:Program} {G:a8} {o:Oper} {s bp:aP} {v:aD}
theorem zdF{b:Builtin}{args:Array Operand}{ts:Array TypeId}(an:o.op= .call {callee:=.builtin b,args,argTypes:=ts})(h:Kr P G b args.toList ts.toList s=some v):cQ P G o s v:=by
 unfold Kr at h
 split at h
 ·rename_i x t a1 zdG
  have aB:args= #[x]:=by apply Array.ext';simpa using a1
  have bf:ts= #[t]:=by apply Array.ext';simpa using zdG
  subst aB bf
  split at h
  ·rename_i m hm
   split at h
   ·rename_i aH
    simp only[Option.some.injEq]at h;subst h;exact Kk x t an aH hm
   ·cases h
  ·split at h
   ·rename_i b hx
    split at h
    ·rename_i aH
     simp only[Option.some.injEq]at h;subst h;exact Kl x t an (uX aH) hx
    ·cases h
   ·split at h
    ·rename_i n hn
     simp only[Option.some.injEq]at h;subst h;exact RB x t an hn
    ·cases h
 ·rename_i x y a1
  have aB:args= #[x,y]:=by apply Array.ext';simpa using a1
  subst aB
  split at h
  ·rename_i k m bk n hx ax
   split at h
   ·rename_i aj
    subst aj;simp only[Option.some.injEq]at h;subst h;exact RS x y ts an hx ax
   ·cases h
  ·cases h
 ·rename_i x y a1
  have aB:args= #[x,y]:=by apply Array.ext';simpa using a1
  subst aB
  split at h
  ·rename_i k m bk n hx ax
   split at h
   ·rename_i aj
    subst aj;simp only[Option.some.injEq]at h;subst h;exact RT x y ts an hx ax
   ·cases h
  ·cases h
 ·cases h
theorem Kt(h:rM P G o s=some v):cQ P G o s v:=by
 unfold rM at h
 split at h
 ·rename_i x an
  simp only[Option.some.injEq]at h;subst h;exact QU x an
 ·rename_i x an
  simp only[Option.some.injEq]at h;subst h;exact QV x an
 ·rename_i t x an
  split at h
  ·rename_i cs hc
   split at h
   ·rename_i n hn
    split at h
    ·rename_i aq
     simp only[Option.some.injEq]at h;subst h;exact QW t x an hn hc aq.1 aq.2
    ·cases h
   ·split at h
    ·rename_i ai
     split at h
     ·simp only[Option.some.injEq]at h;subst h;exact J0 t x an ai hc
     ·cases h
    ·cases h
  ·cases h
 ·rename_i t x f an
  split at h
  ·rename_i k aj hc
   simp only[Option.some.injEq]at h;subst h;exact QZ t x f an aj hc
  ·cases h
 ·rename_i x an
  split at h
  ·rename_i hc
   simp only[Option.some.injEq]at h;subst h;exact Q0 x an hc
  ·cases h
 ·rename_i t x f an
  split at h
  ·rename_i cs off hx aH
   split at h
   ·rename_i v aw
    simp only[Option.some.injEq]at h;subst h;exact RG t x f an aH hx aw
   ·cases h
  ·rename_i cs off n hx aH
   split at h
   ·rename_i hn
    simp only[Option.some.injEq]at h;subst h;exact RH t x f an aH hx hn
   ·cases h
  ·cases h
 ·rename_i t x i an
  split at h
  ·rename_i k j hi
   split at h
   ·rename_i n hn
    split at h
    ·rename_i p ak
     simp only[Option.some.injEq]at h;subst h;exact RE t x i an hn hi ak
    ·cases h
   ·split at h
    ·rename_i len n cs aH dJ
     split at h
     ·rename_i af
      split at h
      ·rename_i p ak
       simp only[Option.some.injEq]at h;subst h;exact Km t x i an aH hi af dJ ak
      ·cases h
     ·cases h
    ·cases h
  ·cases h
 ·rename_i t x i an
  split at h
  ·rename_i k j b hi hx
   split at h
   ·rename_i aH
    split at h
    ·rename_i u hu
     simp only[Option.some.injEq]at h;subst h;exact RF t x i an (uX aH) hi hx hu
    ·cases h
   ·cases h
  ·cases h
 ·rename_i op cw x y ty an
  split at h
  ·rename_i u v hx ax
   split at h
   ·rename_i aH
    split at h
    ·simp only[Option.some.injEq]at h;subst h;exact Rh cw ty x y an (DE aH) hx ax
    ·simp only[Option.some.injEq]at h;subst h;exact Ri cw ty x y an (DE aH) hx ax
    ·cases h
   ·cases h
  ·rename_i u v _ hx ax
   split at h
   ·rename_i c hc
    simp only[Option.some.injEq]at h;subst h;exact o2 _ cw ty x y an hx ax hc
   ·cases h
  ·rename_i cs ds hx ax
   split at h
   ·rename_i fs xs ys hf nU ml
    split at h
    ·rename_i b ad
     split at h
     ·simp only[Option.some.injEq]at h;subst h;exact Ro cw ty x y an hf hx ax nU ml ad
     ·simp only[Option.some.injEq]at h;subst h;exact Rp cw ty x y an hf hx ax nU ml ad
     ·cases h
    ·cases h
   ·cases h
  ·cases h
 ·rename_i op t x an
  split at h
  ·rename_i b hx
   simp only[Option.some.injEq]at h;subst h;exact Rq t x an hx
  ·rename_i k n hx
   simp only[Option.some.injEq]at h;subst h;exact Rr t x an hx
  ·cases h
 ·rename_i c x y an
  split at h
  ·rename_i hc
   simp only[Option.some.injEq]at h;subst h;exact zO c x y an hc rfl
  ·rename_i hc
   simp only[Option.some.injEq]at h;subst h;exact zO c x y an hc rfl
  ·cases h
 ·rename_i x i an
  split at h
  ·rename_i cs hx
   split at h
   ·rename_i v aw
    simp only[Option.some.injEq]at h;subst h;exact Rs x i an hx aw
   ·cases h
  ·cases h
 ·rename_i t parts an
  split at h
  ·rename_i pl zs ak aS
   split at h
   ·rename_i hc
    split at h
    ·rename_i ds hf
     simp only[Option.some.injEq]at h;subst h;exact RL t parts an ak aS hc.1 rfl hc.2 hf
    ·cases h
   ·cases h
  ·cases h
 ·rename_i c an
  split at h
  ·rename_i b ad
   obtain⟨callee,args,ts⟩:=c;simp only at ad h;subst ad;exact zdF an h
  ·cases h
 ·rename_i src dst x an
  split at h
  ·rename_i k n bk hx hd
   split at h
   ·rename_i ai
    simp only[Option.some.injEq]at h;subst h;exact RR src dst x an ai hd hx
   ·cases h
  ·cases h
 ·cases h
theorem zdH(h:Ks P G o s=some bp):dR P G o s bp:=by
 unfold Ks at h
 split at h
 ·rename_i v aw
  simp only[qt,Option.some.injEq]at h;subst h;exact(Kt aw).step
 ·split at h
  ·rename_i t p x an
   split at h
   ·rename_i id off ak
    split at h
    ·rename_i bt cs ah
     split at h
     ·rename_i hc
      simp only[qt,Option.some.injEq]at h;subst h;exact Q9 t p x an ak ah rfl hc.1 hc.2.1 hc.2.2
     ·cases h
    ·cases h
   ·rename_i id i off ak
    split at h
    ·rename_i bt n es ah
     split at h
     ·rename_i e vs he aw
      split at h
      ·rename_i hc
       simp only[qt,Option.some.injEq]at h;subst h;exact Rb t p x an ak ah he aw hc.1 hc.2
      ·cases h
     ·cases h
    ·cases h
   ·cases h
  ·rename_i t an
   split at h
   ·rename_i zs aS
    split at h
    ·rename_i hc
     simp only[qt,Option.some.injEq]at h;subst h;exact Q7 t an hc.2 aS hc.1
    ·cases h
   ·cases h
  ·rename_i t x an
   split at h
   ·rename_i hc
    simp only[qt,Option.some.injEq]at h;subst h;exact Q5 t x an hc.2 hc.1
   ·cases h
  ·cases h
def dO(ops:Array Oper)(s:aP)(o:Oper):Option Bool:=
 match o.guard with
 |none=>some true
 |some (j,b)=>match mm ops j with
  |some d=>match s.cS[d]? with
   |some (.av (.v (.bool c)))=>some (match b,c with
    |true,true=>true
    |false,false=>true
    |_,_=>false)
   |some (.tuple _)=>some false
   |_=>none
  |none=>none
def w5(P:Program)(G:a8)(ops:Array Oper):Nat→List Oper→aP→Option aP
 |0,_,s=>some s
 |n+1,o::r,s=>match dO ops s o with
  |some true=>match Ks P G o s with
   |some bp=>w5 P G ops n r bp
   |none=>none
  |some false=>w5 P G ops n r (s.put o.dst (.tuple []))
  |none=>none
 |_+1,[],_=>none
variable {Q:Exit→aP→Prop}
theorem cv.step{ops:Array Oper}{rest:List Oper}(ah:dO ops s o=some true)(h:dR P G o s bp)(k:cv P G ops Q rest bp):cv P G ops Q (o::rest) s:=by
 unfold dO at ah
 split at ah
 ·rename_i hn
  exact cv.cons hn h k
 ·rename_i j b hn
  split at ah
  ·rename_i d hd
   split at ah
   ·rename_i c ai
    simp only[Option.some.injEq]at ah
    have z7:b=c:=by cases b<;>cases c<;>simp_all
    subst z7;exact cv.guarded hn hd ai h k
   ·cases ah
   ·cases ah
  ·cases ah
theorem cv.pass{ops:Array Oper}{rest:List Oper}(ah:dO ops s o=some false)(k:cv P G ops Q rest (s.put o.dst (.tuple []))):cv P G ops Q (o::rest) s:=by
 unfold dO at ah
 split at ah
 ·cases ah
 ·rename_i j b hn
  split at ah
  ·rename_i d hd
   split at ah
   ·rename_i c ai
    simp only[Option.some.injEq]at ah
    have z7:c= !b:=by cases b<;>cases c<;>simp_all
    subst z7;exact cv.zdg hn hd ai k
   ·rename_i cs ai
    exact cv.zdh hn hd ai k
   ·cases ah
  ·cases ah
theorem cv.run{ops:Array Oper}: ∀(n:Nat) {l:List Oper} {s bp:aP},w5 P G ops n l s=some bp→cv P G ops Q (l.drop n) bp→cv P G ops Q l s
 |0,l,s,bp,h,k=>by
  simp[w5]at h;subst h;exact k
 |n+1,[],s,bp,h,k=>by simp[w5]at h
 |n+1,o::r,s,bp,h,k=>by
  simp only[w5]at h
  split at h
  ·rename_i ah
   split at h
   ·rename_i s1 aa
    exact cv.step ah (zdH aa) (cv.run n h k)
   ·cases h
  ·rename_i ah
   exact cv.pass ah (cv.run n h k)
  ·cases h
end
end Go.aL
namespace Go.aL
open Go
abbrev iR(n:Int):aD:=.av (.v (.int .i64 n))
abbrev pM(b:Bool):aD:=.av (.v (.bool b))
abbrev vs(s:ByteArray):aD:=.av (.v (.string s))
abbrev zdI(l:List a6):List aD:=l.map .av
def m7:Nat→Nat→List (Nat × aD)→List aD
 |_,0,_=>[]
 |i,k+1,[]=>.top::m7 (i+1) k []
 |i,k+1,(j,v)::r=>if i=j then v::m7 (i+1) k r else .top::m7 (i+1) k ((j,v)::r)
theorem gR(n:Int)(aa: -9223372036854775808≤n)(ae:n≤9223372036854775807):IntKind.i64.wrap n=n:=by
 rw[IntKind.wrap_i64];omega
def mv(σ:Heap):Heap→Heap
 |[]=>[]
 |(k,.box t cs)::r=>(k,.box t (kG σ cs))::mv σ r
 |(k,.row z t n es)::r=>(k,.row z t n es)::mv σ r
 |(k,.bM bP)::r=>(k,.bM bP)::mv σ r
def kJ(σ:Heap):ek→ek
 | .box t cs=>.box t (kG σ cs)
 | .row z t n es=>.row z t n es
 | .bM bP=>.bM bP
theorem qu(σ:Heap): ∀(h:Heap) (k:Nat),aE (mv σ h) k=(aE h k).map (kJ σ)
 |[],k=>by simp[mv,aE]
 |(j,.box t cs)::r,k=>by
  by_cases af:j=k
  ·simp[mv,aE,af,kJ]
  ·simp[mv,aE,af,qu σ r k]
 |(j,.row z t n es)::r,k=>by
  by_cases af:j=k
  ·simp[mv,aE,af,kJ]
  ·simp[mv,aE,af,qu σ r k]
 |(j,.bM bP)::r,k=>by
  by_cases af:j=k
  ·simp[mv,aE,af,kJ]
  ·simp[mv,aE,af,qu σ r k]
theorem ib.Ku{w:World}{ro:Nat→Prop}{t:TypeId}{n:Nat}{v:Value}{es:List (List a6)}{xs:List Value}(h:ib w t n v es.length xs)(hn: ∀e∈es,e.length=n)(hc: ∀j x,es.flatten[j]? =some x→cR w ro x (xs.getD j undef))
 (cc: ∀b,b3 v=some b→ro b):cR w ro (.aO n es) v:=by
 rcases h.2 with⟨⟨b,aw,_⟩,aS⟩|⟨g,cap,cur,aw,ak,ah,hle,ig,dJ,lJ⟩
 ·subst aw
  have:es=[]:=List.eq_nil_of_length_eq_zero aS
  subst this;exact .aO n [] b 0 (fun _=>undef) (by simp) (Nat.zero_le _) (by simp) (by simp) (by simp)
 ·subst aw
  refine .aO n es _ cap (fun j=>xs.getD j undef) hle ig hn (fun _=>⟨⟨g,0,none⟩,rfl,fun j af=>⟨cc g (by simp[b3,Nat.ne_of_gt ak]),?_⟩⟩) hc
  rw[addLit,Nat.zero_add,cell_of_row w g j cur t (0,0) ah]
  have hx:xs[j]? =cur[j]? :=by rw[←lJ,List.getElem?_take,if_pos af];simp
  have jL:j<xs.length:=by rw[h.1];exact af
  rw[←hx];simp[List.getD,List.getElem?_eq_getElem jL]
def m8(s:aP)(id:Nat):aP:=
 match aE s.heap id with
 |some (.row false t n es)=>⟨kG [(id,.row true t n es)] s.cS,mv [(id,.row true t n es)] (gk s.heap id),s.next,s.base⟩
 |_=>s
theorem cn.m8(s:aP)(id:Nat):cn s (m8 s id):=by
 unfold Go.aL.m8
 split
 ·rename_i t n es bd
  intro E G a w ⟨β,ro,h⟩
  have dh:=h.heap.c6 id _ bd
  cases dh with
  |row _ _ _ xs cZ hn hc=>

   have DF:cR w (fun b=>ro b∨b3 (β id)=some b) (.aO n es) (β id):=cZ.Ku hn (fun j x af=>(hc j x af).keep (fun _ _=>rfl) fun _ h=>.inl h) fun b ad=>.inr ad
   have gA: ∀k o,aE (gk s.heap id) k=some o→aE s.heap k=some o∧k≠id:=by
    intro k o aj;rw[zD]at aj
    split at aj
    ·cases aj
    ·rename_i b4
     exact⟨aj,fun e=>b4 e.symm⟩
   have view: ∀x c,bs w ro s.heap β s.next x c→bs w (fun b=>ro b∨b3 (β id)=some b) (mv [(id,.row true t n es)] (gk s.heap id)) β s.next (hO [(id,.row true t n es)] x) c:=by
    intro x c hx
    induction hx with
    |av x c hx=>exact .av x c (hx.keep (fun _ _=>rfl) fun _ h=>.inl h)
    |agg cs c aa _ aY=>
     refine .agg _ c (by rw[nV];exact aa) fun j x af=>?_
     obtain⟨y,ax,rfl⟩:=o4 _ af;exact aY j y ax
    |tuple cs c aa _ aY=>
     refine .tuple _ c (by rw[nV];exact aa) fun j x af=>?_
     obtain⟨y,ax,rfl⟩:=o4 _ af;exact aY j y ax
    |ptr k off c aq ak=>
     refine .ptr k off c aq fun bD cs' ah=>?_
     rw[qu]at ah
     cases aj:aE (gk s.heap id) k with
     |none=>simp[aj]at ah
     |some p=>
      cases p with
      |box t2 z8=>exact ak t2 z8 (gA k _ aj).1
      |row=>simp[aj,kJ]at ah
      |bM=>simp[aj,kJ]at ah
    |dA k off c aq ak=>
     refine .dA k off c aq fun bD cs' ah=>?_
     rw[qu]at ah
     cases aj:aE (gk s.heap id) k with
     |none=>simp[aj]at ah
     |some p=>
      cases p with
      |box t2 z8=>exact ak t2 z8 (gA k _ aj).1
      |row=>simp[aj,kJ]at ah
      |bM=>simp[aj,kJ]at ah
    |cW k i off c aq ak=>
     refine .cW k i off c aq fun iw bD cJ dQ ah=>?_
     rw[qu]at ah
     cases aj:aE (gk s.heap id) k with
     |none=>simp[aj]at ah
     |some p=>
      cases p with
      |box t2 z8=>simp[aj,kJ]at ah
      |bM=>simp[aj,kJ]at ah
      |row z2 t2 gv zdJ=>
       simp only[aj,kJ,Option.map_some,Option.some.injEq,ek.row.injEq]at ah;obtain⟨rfl,rfl,rfl,rfl⟩:=ah;exact ak _ _ _ _ (gA k _ aj).1
    |aO k c aq ak=>
     simp only[hO,aE]
     by_cases aj:id=k
     ·subst aj
      simp only[if_true];rw[ak _ _ _ _ bd];exact .av _ _ DF
     ·simp only[if_neg aj]
      refine .aO k c aq fun iw bD cJ dQ ah=>?_
      rw[qu]at ah
      cases eB:aE (gk s.heap id) k with
      |none=>simp[eB]at ah
      |some p=>
       cases p with
       |box t2 z8=>simp[eB,kJ]at ah
       |bM=>simp[eB,kJ]at ah
       |row z2 t2 gv zdJ=>exact ak _ _ _ _ (gA k _ eB).1
    |fn f p q c d aa ae _ _ hl ho=>
     refine .fn f _ _ c d (by rw[nV];exact aa) (by rw[nV];exact ae) (fun j x af=>?_) (fun j x af=>?_)
     ·obtain⟨y,ax,rfl⟩:=o4 _ af
      exact hl j y ax
     ·obtain⟨y,ax,rfl⟩:=o4 _ af
      exact ho j y ax
    |ref k c aq ak=>
     refine .ref k c aq fun bP ah=>?_
     rw[qu]at ah
     cases aj:aE (gk s.heap id) k with
     |none=>simp[aj]at ah
     |some p=>
      cases p with
      |box=>simp[aj,kJ]at ah
      |row=>simp[aj,kJ]at ah
      |bM lI=>exact ak lI (gA k _ aj).1
    |top c=>exact .top c
   have back: ∀k o,aE (mv [(id,.row true t n es)] (gk s.heap id)) k=some o→∃p,aE s.heap k=some p∧k≠id∧p.live=o.live∧o=kJ [(id,.row true t n es)] p:=by
    intro k o ah;rw[qu]at ah
    cases aj:aE (gk s.heap id) k with
    |none=>simp[aj]at ah
    |some p=>
     obtain⟨aa,ae⟩:=gA k p aj;refine⟨p,aa,ae,?_,?_⟩
     ·simp[aj]at ah
      subst ah
      cases p<;>rfl
     ·simp[aj]at ah
      exact ah.symm
   refine⟨β,fun b=>ro b∨b3 (β id)=some b,h.defers,by simpa[nV]using h.size,fun i x hx=>?_,⟨fun k o ah=>?_,fun k bk o cA b ah dW aq sX ad gz=>?_,fun b ad=>?_,fun b ad=>?_⟩,
    h.ic.keep (fun _ _=>rfl) fun _ h=>.inl h,?_,h.base⟩
   ·obtain⟨y,ax,rfl⟩:=o4 _ hx
    exact view _ _ (h.slot i y ax)
   ·obtain⟨p,aa,ae,au,rfl⟩:=back k o ah
    have an:=h.heap.c6 k p aa
    cases an with
    |box bD cs' b arr aB bf ck ep=>
     refine .box bD _ b arr aB bf (by rw[nV];exact ck) fun j x af=>?_
     obtain⟨y,ax,rfl⟩:=o4 _ af;exact view _ _ (ep j y ax)
    |row bD cJ dQ J6 aB bf ck=>exact .row bD cJ dQ J6 aB bf fun j x af=>(ck j x af).keep (fun _ _=>rfl) fun _ h=>.inl h
    |gb bD cJ dQ aB=>exact .gb bD cJ dQ (aB.keep (fun _ _=>rfl) fun _ h=>.inl h)
    |bM bP b o aB bf ck=>exact .bM bP b o aB bf (bP.mono _ _ _ _ (fun x c h=>h.keep (fun _ _=>rfl) fun _ h=>.inl h) ck)
   ·obtain⟨p,aa,_,au,_⟩:=back k o ah
    obtain⟨fX,sY,_,zdK,_⟩:=back bk cA dW;exact h.heap.inj k bk p fX b aa sY (au.trans aq) (zdK.trans sX) ad gz
   ·rintro⟨k,o,ah,aq,bg⟩
    obtain⟨p,aa,ae,au,_⟩:=back k o ah
    rcases ad with ad|ad
    ·exact h.heap.fh b ad ⟨k,p,aa,au.trans aq,bg⟩
    ·exact ae (h.heap.inj k id p _ b aa bd (au.trans aq) rfl bg ad)
   ·rcases ad with ad|ad
    ·exact h.heap.lt b ad
    ·exact(cZ.hL ad).1
   ·have bD:=h.trans
    refine⟨bD.os,bD.tape,bD.output,bD.size,bD.frame,fun b ad=>?_,fun b ad=>.inl (bD.j2 b ad),?_,fun k aj o ah=>?_,fun k o ah=>?_,bD.le⟩
    ·rcases ad with ad|ad
     ·exact bD.jl b ad
     ·rcases bD.hk b ⟨id,_,bd,rfl,ad⟩with hc|hc
      ·exact .inr (.inl hc)
      ·exact .inr (.inr hc)
    ·rintro b ⟨k,o,ah,aq,bg⟩
     obtain⟨p,aa,_,au,_⟩:=back k o ah;exact bD.hk b ⟨k,p,aa,au.trans aq,bg⟩
    ·obtain⟨p,aa,_,_,_⟩:=back k o ah
     exact bD.dL k aj p aa
    ·obtain⟨p,aa,_,_,_⟩:=back k o ah
     exact bD.new k p aa
 ·exact cn.refl s
end Go.aL
namespace Go.aL
open Go
def qv(s:ByteArray)(pos:Nat):wR:=⟨fun _ v o=>(∃b,v= .pointer (some ⟨b,0,none⟩))∧o= .stringIter s pos,fun _ _ _ _ _ h=>h,none,fun _ h=>by cases h⟩
section
variable {P:Program} {G:a8} {o:Oper} {s:aP}
theorem run_newObj(ie:Obj)(w:World):(newObj ie).run P w= .ok w.heap.size (w.alloc ie):=rfl
theorem RU{w:World}{r:Nat}{b:ByteArray}{p:Nat}(h:w.heap[r]? =some (.stringIter b p)):(getObj r).run P w= .ok (.stringIter b p) w:=by simp[getObj,Sem.run,h]
theorem zdL{w:World}{r:Nat}{b:ByteArray}{p:Nat}(ie:Obj)(h:w.heap[r]? =some (.stringIter b p)):(setObj r ie).run P w= .ok () {w with heap:=w.heap.setIfInBounds r ie}:=by simp[setObj,Sem.run,h]
theorem zdM(t:TypeId)(x:Operand)(an:o.op= .range t x)(aH:P.underlying t=some .string){b:ByteArray}(hx:aJ G s x= .av (.v (.string b)))(ad:s.base≤s.next):
 dR P G o s ({s with heap:=(s.next,.bM (qv b 0))::s.heap,next:=s.next+1}.put o.dst (.ref s.next)):=by
 intro E a w ⟨β,ro,ag⟩ K Q hK
 unfold Oper.wp
 simp only[execOp,an,ag.ef hx,Sem.run_bind,Instr.range,run_underlying aH,Result.andThen_ok,Sem.run_pure]
 have jm:aE s.heap s.next=none:=by
  cases ah:aE s.heap s.next with
  |none=>rfl
  |some p=>have:=ag.trans.new _ _ ah;omega
 have fe:=ag.new (w':=w.alloc (.stringIter b 0)) s.next jm ad (Nat.le_refl _) (.bM (qv b 0)) (.pointer (some ⟨w.heap.size,0,none⟩)) rfl rfl rfl (by simp) (fun b ad=>Go.RowKit.Below.heap_alloc w _ b ad) (fun b ad=>by simp[b3]at ad;omega) rfl
  (.bM _ w.heap.size (.stringIter b 0) (by rw[dS];rfl) (heap_alloc_new w _) ⟨⟨_,dS _ _ _⟩,rfl⟩)
 have aj:=hK _ _ ⟨_,ro,fe.put o.dst (.ref s.next) (.pointer (some ⟨w.heap.size,0,none⟩)) (.ref _ _ (Nat.lt_succ_self _) fun bP _=>(dS _ _ _).symm)⟩
 rw[run_newObj]
 exact aj
theorem zdN(x:Operand)(an:o.op= .next x true){id:Nat}(hx:aJ G s x= .ref id){b:ByteArray}{pos:Nat}(bd:aE s.heap id=some (.bM (qv b pos)))(ak:b.size≤pos):
 cQ P G o s (.tuple [.av (.v (.bool false))]):=
 fun E a w β ro ag=>by
  have dh:=ag.heap.c6 id _ bd
  cases dh with
  |bM _ DG ie aa ae au=>
   obtain⟨⟨b',gz⟩,rfl⟩:=au
   have dT:=ag.eval x
   rw[hx]at dT;generalize he:a.eval x=c at dT
   cases dT with
   |ref _ _ _ hc=>
    have iS:=hc _ bd
    rw[gz]at aa iS;simp only[b3,Option.some.injEq]at aa;subst aa;refine⟨.tuple #[.bool false],?_,.tuple _ _ rfl fun j y af=>?_⟩
    ·have hn: ¬pos<b.size:=by omega
     rw[iS]at he;simp[execOp,an,he,Instr.next,RU ae,hn]
    ·cases j with
     |zero=>simp at af;subst af;exact .fE rfl
     |succ j=>simp at af
theorem zdO(x:Operand)(an:o.op= .next x true){id:Nat}(hx:aJ G s x= .ref id){b:ByteArray}{pos:Nat}(bd:aE s.heap id=some (.bM (qv b pos)))(ak:pos<b.size){c k:Nat}(hd:Utf8.decode b pos=(c,k)):
 dR P G o s ({s with heap:=eN s.heap id (.bM (qv b (pos+k)))}.put o.dst (.tuple [.av (.v (.bool true)),.av (.v (.int .i64 (pos:Int))),.av (.v (.int .i32 (c:Int)))])):=by
 intro E a w ⟨β,ro,ag⟩ K Q hK
 have dh:=ag.heap.c6 id _ bd
 cases dh with
 |bM _ DG ie aa ae au=>
  obtain⟨⟨b',gz⟩,rfl⟩:=au
  have dT:=ag.eval x
  rw[hx]at dT;generalize he:a.eval x=pa at dT
  cases dT with
  |ref _ _ _ hc=>
   have iS:=hc _ bd
   have pb:=aa
   rw[gz]at aa iS;simp only[b3,Option.some.injEq]at aa;subst aa;rw[iS]at he;unfold Oper.wp
   have cr:(execOp a.eval o).run P w= .ok (.value (.tuple #[.bool true,goInt pos,.int .i32 c])) {w with heap:=w.heap.setIfInBounds b' (.stringIter b (pos+k))}:=by
    simp[execOp,an,he,Instr.next,RU ae,ak,hd,zdL _ ae]
   rw[cr]
   have bH:=(Array.getElem?_eq_some_iff.1 ae).1
   have hw:=ag.write (w':={w with heap:=w.heap.setIfInBounds b' (.stringIter b (pos+k))}) id _ (.bM (qv b (pos+k))) bd rfl rfl (.inr (.inr ⟨_,_,rfl,rfl⟩)) rfl rfl rfl (by simp) (fun j af b4=>by
    have:b'≠j:=fun e=>b4 (by rw[gz,←e];rfl)
    simp[Array.getElem?_setIfInBounds_ne this]) (.bM _ b' (.stringIter b (pos+k)) pb (by simp[bH]) ⟨⟨b',gz⟩,rfl⟩)
   refine hK _ _ ⟨β,ro,hw.put o.dst _ _ (.tuple _ _ rfl fun j y af=>?_)⟩
   match j,af with
   |0,af=>simp at af;subst af;exact .fE rfl
   |1,af=>simp at af;subst af;exact .fE rfl
   |2,af=>simp at af;subst af;exact .fE rfl
   |j+3,af=>simp at af
end
end Go.aL
namespace Go.aL
open Go
section
variable {P:Program} {G:a8} {o:Oper} {s:aP} {E:Entry} {a:Act} {w w':World} {β:Nat→Value} {ro ro':Nat→Prop}
theorem c3.grow(h:c3 E G s a w β ro)(oY:w'.os=w.os)(oZ:w'.tape=w.tape)(kF:w'.output=w.output)(bN:w.heap.size≤w'.heap.size)(hw: ∀b,b<w.heap.size→w'.heap[b]? =w.heap[b]?)
 (cc: ∀b,ro b→ro' b)(fe: ∀b,ro' b→ro b∨(w.heap.size≤b∧b<w'.heap.size)):c3 E G s a w' β ro':=by
 have aj: ∀b,ro b→w'.heap[b]? =w.heap[b]? :=fun b ad=>hw b (h.heap.lt b ad)
 refine⟨h.defers,h.size,fun i x hx=>(h.slot i x hx).keep aj cc (Nat.le_refl _) (fun _ t cs ah=>⟨rfl,t,cs,ah⟩) (fun _ z t _ es ah=>⟨rfl,z,t,es,ah⟩) (fun _ bP ah=>⟨rfl,bP,ah⟩),
  ⟨fun id ie ah=>(h.heap.c6 id ie ah).keep aj cc (Nat.le_refl _) bN rfl (fun aq b ad=>hw b ((h.heap.c6 id ie ah).hL aq ad)) (fun _ t cs ah=>⟨rfl,t,cs,ah⟩) (fun _ z t _ es ah=>⟨rfl,z,t,es,ah⟩) (fun _ bP ah=>⟨rfl,bP,ah⟩),h.heap.inj,fun b ad an=>?_,fun b ad=>?_⟩,
  h.ic.keep aj cc,?_,h.base⟩
 ·rcases fe b ad with aa|⟨aa,_⟩
  ·exact h.heap.fh b aa an
  ·obtain⟨id,ie,ah,aq,gz⟩:=an
   have:=(h.heap.c6 id ie ah).hL aq gz
   omega
 ·rcases fe b ad with aa|⟨_,aa⟩
  ·exact Nat.lt_of_lt_of_le (h.heap.lt b aa) bN
  ·exact aa
 ·have t:=h.trans
  refine⟨oY.trans t.os,oZ.trans t.tape,kF.trans t.output,Nat.le_trans t.size bN,fun b ad hn=>(hw b (Nat.lt_of_lt_of_le ad t.size)).trans (t.frame b ad hn),fun b ad=>?_,fun b ad=>cc b (t.j2 b ad),t.hk,t.dL,t.new,t.le⟩
  rcases fe b ad with aa|⟨aa,_⟩
  ·exact t.jl b aa
  ·exact .inr (.inr (Nat.le_trans t.size aa))
theorem dR.Kv{t:TypeId}{n:Nat}{es:List (List a6)}(bb:w2 P G o s t n es):dR P G o s (s.put o.dst (.av (.aO n es))):=by
 obtain⟨hn,h⟩:=bb
 intro E a w ⟨β,ro,ag⟩ K Q hK
 obtain⟨v,xs,w',cr,hB,cU,gI,eW⟩:=h E a w β ro ag
 unfold Oper.wp
 rw[cr]
 have hw: ∀b,b<w.heap.size→w'.heap[b]? =w.heap[b]? :=fun b ad=>cU.block b ad (by simp)
 have cZ:ib w' t n v es.length xs:=.Dz hB
 have ah:=ag.grow (ro':=fun b=>ro b∨b3 v=some b) cU.os cU.tape cU.output cU.size hw (fun _ h=>.inl h) (fun b ad=>by
  rcases ad with h|h
  ·exact .inl h
  ·exact .inr ⟨gI b h,(cZ.hL h).1⟩)
 exact hK _ _ ⟨β,_,ah.put o.dst _ _ (.av _ _ (cZ.Ku hn (fun j x af=>(eW j x af).keep (fun b ad=>hw b (ag.heap.lt b ad)) fun _ h=>.inl h) fun b ad=>.inr ad))⟩
mutual
theorem RV(d:Nat): ∀(x:aD),fF x=true→qo d x=x∧gB 0 x=true
 | .av _,_=>⟨rfl,rfl⟩
 | .agg cs,h=>by
  have:=Aa d cs (by simpa[fF]using h)
  exact⟨by simp[qo,this.1],by simpa[gB]using this.2⟩
 | .tuple cs,h=>by
  have:=Aa d cs (by simpa[fF]using h)
  exact⟨by simp[qo,this.1],by simpa[gB]using this.2⟩
 | .fn f p q,h=>by
  simp only[fF,Bool.and_eq_true]at h
  have aa:=Aa d p h.1
  have ae:=Aa d q h.2
  exact⟨by simp[qo,aa.1,ae.1],by simp[gB,aa.2,ae.2]⟩
 | .top,_=>⟨rfl,rfl⟩
 | .ptr _ _,h=>by simp[fF]at h
 | .dA _ _,h=>by simp[fF]at h
 | .cW _ _ _,h=>by simp[fF]at h
 | .aO _,h=>by simp[fF]at h
 | .ref _,h=>by simp[fF]at h
theorem Aa(d:Nat): ∀(l:List aD),e4 l=true→lK d l=l∧lb 0 l=true
 |[],_=>⟨rfl,rfl⟩
 |x::r,h=>by
  simp only[e4,Bool.and_eq_true]at h
  have aa:=RV d x h.1
  have ae:=Aa d r h.2
  exact⟨by simp[lK,aa.1,ae.1],by simp[lb,aa.2,ae.2]⟩
end
theorem dR.zdP{x:Operand}{xs:Array Operand}{ts:Array TypeId}(an:o.op= .call {callee:=.value x,args:=xs,argTypes:=ts}){f:FuncId}(hx:aJ G s x= .fn (.func f) [] [])
 (gC:m5 P f=true){args:List aD}(h3:xs.toList.map (fun y=>hO s.heap (aJ G s y))=args)(o5:e4 args=true){r:aD}(hc:dG P G f args [] 0 fun dH bV=>dH=r∧bV=[])(ag:fF r=true)(ad:s.base≤s.next):
 dR P G o s (s.put o.dst r):=by
 obtain⟨Kw,rN⟩:=RV s.next r ag
 have:=dR.call (K:=0) an hx gC h3 o5 hc (fun _ _ h=>h) rN rfl ad
 rw[Kw]at this
 exact this
def jt(ks:List Nat)(l:List aD):List aD:=l.mapIdx fun i x=>if ks.contains i then x else .top
theorem Ab(ks:List Nat)(l:List aD)(i:Nat):(jt ks l)[i]? =(l[i]?).map fun x=>if ks.contains i then x else .top:=by
 simp[jt]
theorem c3.mask(h:c3 E G s a w β ro)(ks:List Nat):c3 E G {s with cS:=jt ks s.cS} a w β ro:=by
 refine⟨h.defers,by simp[jt,h.size],fun i x hx=>?_,h.heap,h.ic,h.trans,h.base⟩
 simp only[Ab]at hx
 cases hi:s.cS[i]? with
 |none=>simp[hi]at hx
 |some y=>
  simp only[hi,Option.map_some,Option.some.injEq]at hx
  split at hx
  ·subst hx;exact h.slot i y hi
  ·subst hx;exact .top _
def DStep(P:Program)(G:a8)(ops:Array Oper)(dr:aP)(T:List aD)(o:Oper)(v:aD):Prop:=
 ∀s:aP,s.heap=dr.heap→s.next=dr.next→s.base=dr.base→s.cS.length=T.length→(∀t∈o.looksAt ops,s.cS[t]? =T[t]?)→
  (dO ops s o=some true∧dR P G o s (s.put o.dst v))∨(dO ops s o=some false∧v= .tuple [])
theorem Kx{ks:List Nat}{l h2:List aD}(hlen:l.length=h2.length)(h: ∀t∈ks,l[t]? =h2[t]?):jt ks l=jt ks h2:=by
 apply List.ext_getElem?
 intro i
 rw[Ab,Ab]
 by_cases hi:i∈ks
 ·rw[h i hi]
 ·have hc:ks.contains i=false:=by simpa using hi
  simp only[hc]
  by_cases aq:i<l.length
  ·rw[List.getElem?_eq_getElem aq,List.getElem?_eq_getElem (by omega)];rfl
  ·rw[List.getElem?_eq_none (by omega),List.getElem?_eq_none (by omega)]
theorem Ky{ops:Array Oper}{ks:List Nat}(aj: ∀j b,o.guard=some (j,b)→∀d,mm ops j=some d→d∈ks):dO ops {s with cS:=jt ks s.cS} o=dO ops s o:=by
 unfold dO
 cases ah:o.guard with
 |none=>rfl
 |some Kz=>
  obtain⟨j,b⟩:=Kz;simp only
  cases hd:mm ops j with
  |none=>rfl
  |some d=>
   have hm:ks.contains d=true:=by simpa using aj j b ah d hd
   simp only[Ab]
   cases ai:s.cS[d]? with
   |none=>simp
   |some x=>simp only[Option.map_some,hm,if_true]
theorem KA{ops:Array Oper}(j:Nat)(b:Bool)(ah:o.guard=some (j,b))(d:Nat)(hd:mm ops j=some d):d∈o.looksAt ops:=by
 unfold mm at hd
 simp[Oper.looksAt,ah,hd]
theorem DStep.val{ops:Array Oper}{dr:aP}{T:List aD}{v:aD}(ah:dO ops ⟨jt (o.looksAt ops) T,dr.heap,dr.next,dr.base⟩ o=some true)(aw:rM P G o ⟨jt (o.looksAt ops) T,dr.heap,dr.next,dr.base⟩=some v):DStep P G ops dr T o v:=by
 intro s aa ae au hlen bR
 have hm:=Kx hlen bR
 have dD:({s with cS:=jt (o.looksAt ops) s.cS}:aP)=⟨jt (o.looksAt ops) T,dr.heap,dr.next,dr.base⟩:=by rw[hm,←aa,←ae,←au]
 refine .inl ⟨by rw[←Ky (ks:=o.looksAt ops) KA,dD];exact ah,cQ.step fun E a w β ro ag=>?_⟩
 have dX:=ag.mask (o.looksAt ops)
 rw[dD]at dX
 have:=Kt aw E a w β ro dX
 simpa only[aa,ae]using this
theorem zdQ{ks:List Nat}{y:Operand}(ax: ∀t,y= .tmp t→t∈ks):aJ G {s with cS:=jt ks s.cS} y=aJ G s y:=by
 cases y with
 |tmp t=>
  have hm:ks.contains t=true:=by simpa using ax t rfl
  simp only[aJ,List.getD,Ab]
  cases ai:s.cS[t]? with
  |none=>rfl
  |some x=>simp only[Option.map_some,hm,if_true]
 |_=>rfl
theorem DStep.of{ops:Array Oper}{dr:aP}{T:List aD}{v:aD}(ah:dO ops ⟨jt (o.looksAt ops) T,dr.heap,dr.next,dr.base⟩ o=some true)
 (h: ∀s:aP,s.heap=dr.heap→s.next=dr.next→s.base=dr.base→(∀y:Operand,(∀t,y= .tmp t→t∈o.looksAt ops)→aJ G s y=aJ G ⟨jt (o.looksAt ops) T,dr.heap,dr.next,dr.base⟩ y)→dR P G o s (s.put o.dst v)):DStep P G ops dr T o v:=by
 intro s aa ae au hlen bR
 have hm:=Kx hlen bR
 have dD:({s with cS:=jt (o.looksAt ops) s.cS}:aP)=⟨jt (o.looksAt ops) T,dr.heap,dr.next,dr.base⟩:=by rw[hm,←aa,←ae,←au]
 refine .inl ⟨by rw[←Ky (ks:=o.looksAt ops) KA,dD];exact ah,h s aa ae au fun y ax=>?_⟩
 rw[←dD]
 exact(zdQ ax).symm
end
end Go.aL
namespace Go.aL
open Go
def w6(l:List Oper)(sZ:List aD)(qw:List aD)(E:Nat→Prop)(T:List aD):Prop:=
 T.length=qw.length∧∀t,t<qw.length→((∀j o,l[j]? =some o→E j→o.dst≠some t)→T[t]? =qw[t]?)∧(∀j o,l[j]? =some o→E j→o.dst=some t→T[t]? =sZ[j]?)
theorem w6.same{l:List Oper}{sZ qw T RX:List aD}{E w7:Nat→Prop}(h:w6 l sZ qw E T)(h':w6 l sZ qw w7 RX)(t:Nat)(he: ∀j o,l[j]? =some o→o.dst=some t→(E j↔w7 j)):T[t]? =RX[t]? :=by
 by_cases aH:t<qw.length
 ·by_cases hx: ∃j o,l[j]? =some o∧E j∧o.dst=some t
  ·obtain⟨j,o,aa,ae,au⟩:=hx
   rw[(h.2 t aH).2 j o aa ae au,(h'.2 t aH).2 j o aa ((he j o aa au).1 ae) au]
  ·have aB: ∀j o,l[j]? =some o→E j→o.dst≠some t:=fun j o aa ae au=>hx ⟨j,o,aa,ae,au⟩
   have bf: ∀j o,l[j]? =some o→w7 j→o.dst≠some t:=fun j o aa ae au=>hx ⟨j,o,aa,(he j o aa au).2 ae,au⟩
   rw[(h.2 t aH).1 aB,(h'.2 t aH).1 bf]
 ·rw[List.getElem?_eq_none (by have:=h.1;omega),List.getElem?_eq_none (by have:=h'.1;omega)]
def w8(T:List aD)(dst:Option Nat)(v:aD):List aD:=
 match dst with
 |some d=>T.set d v
 |none=>T
theorem zdR(T:List aD)(dst:Option Nat)(v:aD):(w8 T dst v).length=T.length:=by
 cases dst<;>simp[w8]
theorem w6.put{l:List Oper}{sZ qw T:List aD}{E:Nat→Prop}(h:w6 l sZ qw E T){i:Nat}{o:Oper}{v:aD}(hi:l[i]? =some o)(aw:sZ[i]? =some v)
 (hd: ∀j p,l[j]? =some p→E j→p.dst≠none→p.dst≠o.dst){w7:Nat→Prop}(e3: ∀j,w7 j↔E j∨j=i):w6 l sZ qw w7 (w8 T o.dst v):=by
 refine⟨by rw[zdR];exact h.1,fun t aH=>⟨fun hn=>?_,fun j p af KB ak=>?_⟩⟩
 ·have aa:=(h.2 t aH).1 fun j p af KB=>hn j p af ((e3 j).2 (.inl KB))
  cases qx:o.dst with
  |none=>exact aa
  |some d=>
   have b4:d≠t:=fun e=>hn i o hi ((e3 i).2 (.inr rfl)) (by rw[qx,e])
   simp only[w8];rw[List.getElem?_set_ne b4]
   exact aa
 ·rcases (e3 j).1 KB with aa|aa
  ·have ae:=(h.2 t aH).2 j p af aa ak
   cases qx:o.dst with
   |none=>exact ae
   |some d=>
    have b4:d≠t:=fun e=>hd j p af aa (by rw[ak];simp) (by rw[ak,qx,e])
    simp only[w8];rw[List.getElem?_set_ne b4]
    exact ae
  ·subst aa
   rw[hi]at af;simp only[Option.some.injEq]at af;subst af;rw[ak];simp only[w8];rw[List.getElem?_set_self (by have:=h.1;omega),aw]
section
variable {P:Program} {G:a8} {dr:aP}
abbrev w9(ops:Array Oper)(dr:aP)(T:List aD)(o:Oper):aP:=⟨jt (o.looksAt ops) T,dr.heap,dr.next,dr.base⟩
theorem DStep.row{ops:Array Oper}{T:List aD}{o:Oper}{t n:Nat}{es:List (List a6)}(ah:dO ops (w9 ops dr T o) o=some true)(h:w2 P G o (w9 ops dr T o) t n es):DStep P G ops dr T o (.av (.aO n es)):=by
 intro s aa ae au hlen bR
 have hm:=Kx hlen bR
 have dD:({s with cS:=jt (o.looksAt ops) s.cS}:aP)=w9 ops dr T o:=by rw[hm,aa,ae,au]
 refine .inl ⟨by rw[←Ky (ks:=o.looksAt ops) KA,dD];exact ah,dR.Kv (t:=t) ⟨h.1,fun E a w β ro ag=>?_⟩⟩
 have dX:=ag.mask (o.looksAt ops)
 rw[dD]at dX
 exact h.2 E a w β ro dX
theorem DStep.call{ops:Array Oper}{T:List aD}{o:Oper}{x:Operand}{xs:Array Operand}{ts:Array TypeId}(an:o.op= .call {callee:=.value x,args:=xs,argTypes:=ts})(ah:dO ops (w9 ops dr T o) o=some true){f:FuncId}
 (hx:aJ G (w9 ops dr T o) x= .fn (.func f) [] [])(gC:m5 P f=true){args:List aD}(h3:xs.toList.map (fun y=>hO dr.heap (aJ G (w9 ops dr T o) y))=args)(o5:e4 args=true){r:aD}
 (hc:dG P G f args [] 0 fun dH bV=>dH=r∧bV=[])(ag:fF r=true)(ad:dr.base≤dr.next):DStep P G ops dr T o r:=by
 refine DStep.of ah fun s aa ae au ax=>?_
 have RY: ∀y:Operand,(y=x∨y∈xs)→∀t,y= .tmp t→t∈o.looksAt ops:=by
  intro y ax t aH;subst aH;refine List.mem_append_left _ (List.mem_filterMap.2 ⟨.tmp t,?_,rfl⟩)
  rw[an];simp only[Op.operands,Call.operands]
  rcases ax with h|h
  ·rw[←h];simp
  ·simp[h]
 refine dR.zdP an (by rw[ax x (RY x (.inl rfl))];exact hx) gC (args:=args) ?_ o5 hc ag (by rw[ae,au];exact ad)
 rw[←h3]
 apply List.map_congr_left
 intro y hm
 rw[aa,ax y (RY y (.inr (by simpa using hm)))]
theorem DStep.cast{ops:Array Oper}{T:List aD}{o:Oper}{v bh:aD}(h:DStep P G ops dr T o v)(e:v=bh):DStep P G ops dr T o bh:=e ▸ h
end
end Go.aL
namespace Go.aL
open Go
section
variable {P:Program} {G:a8} {o:Oper} {s:aP}
def uY(P:Program)(t:TypeId):Option (TypeId × Nat × List Value):=
 match P.underlying t with
 |some (.slice e)=>match P.info? e,zeroCells P e with
  |some i,some zs=>if zs.all Value.oneCell'∧zs.length=i.size∧0<i.size then some (e,i.size,zs)else none
  |_,_=>none
 |_=>none
def n1(P:Program)(G:a8)(s:aP)(t:TypeId)(len:Nat)(parts:List (Nat × Operand)):Option (TypeId × Nat × List (List a6)):=
 match uY P t with
 |some (e,n,zs)=>
  if len=0 then(if parts.isEmpty then some (e,n,[])else none)
  else if len*n≤16777216∧(parts.map fun p=>(p.1,aJ G s p.2)).all (fun p=>(cT p.2).all (eE s.heap))then
   match j8 (fun i=>some (i*n,n)) ((List.replicate len (zs.map fun z=>aD.av (.v z))).flatten) (parts.map fun p=>(p.1,aJ G s p.2))with
   |some ds=>match iQ ds with
    |some rs=>some (e,n,chunk n len rs)
    |none=>none
   |none=>none
  else none
 |none=>none
theorem DH{t:TypeId}{len:Nat}{parts:Array (Nat × Operand)}(an:o.op= .buildSlice t len parts){e n:Nat}{es:List (List a6)}(h:n1 P G s t len parts.toList=some (e,n,es)):w2 P G o s e n es:=by
 unfold n1 at h
 split at h
 ·rename_i ay cJ zs aH
  unfold uY at aH
  split at aH
  ·rename_i bf hu
   split at aH
   ·rename_i i zdS hi aS
    split at aH
    ·rename_i hc
     simp only[Option.some.injEq,Prod.mk.injEq]at aH;obtain⟨rfl,rfl,rfl⟩:=aH
     split at h
     ·rename_i hlen
      subst hlen
      split at h
      ·rename_i ak
       simp only[Option.some.injEq,Prod.mk.injEq]at h;obtain⟨rfl,rfl,rfl⟩:=h;refine⟨by simp,fun E a w β ro ag=>⟨.slice (some ⟨w.heap.size,0,none⟩) 0 0,[],w.alloc (.cells #[] bf),?_,?_,World.grownBy_alloc w _ none,fun b ad=>by simp[b3]at ad,by simp⟩⟩
       ·have gJ:parts= #[]:=by
         apply Array.ext';simpa using ak
        subst gJ;simp[execOp,an,Instr.buildSlice,run_underlying hu,sizeOf,typeInfo,hi,Instr.fill,newRow,Sem.run_bind,Array.range_zero']
       ·exact World.ownsRow_lit w #[] 0 (Nat.zero_le _) (Nat.zero_le _) (by simp)
      ·cases h
     ·rename_i hlen
      split at h
      ·rename_i Kn
       split at h
       ·rename_i ds hf
        split at h
        ·rename_i rs gM
         simp only[Option.some.injEq,Prod.mk.injEq]at h;obtain⟨rfl,rfl,rfl⟩:=h
         have zdT:0<len*i.size:=Nat.mul_pos (Nat.pos_of_ne_zero hlen) hc.2.2
         exact zdy t len parts an hu (by simp[hi]) aS hc.1 hc.2.1 ⟨zdT,Kn.1⟩ rfl Kn.2 hf gM
        ·cases h
       ·cases h
      ·cases h
    ·cases aH
   ·cases aH
  ·cases aH
 ·cases h
end
theorem zdU{k:Nat}(h:k+1≤9223372036854775807):IntKind.i64.wrap ((k:Int)+1)=((k+1:Nat):Int):=by
 rw[gR _ (by omega) (by omega)]
 rfl
end Go.aL
namespace Go.aL
open Go
def xa(m:Option Nat):aD→aD
 | .av (.v (.slice none 0 0))=>match m with
  |some n=>.av (.aO n [])
  |none=>.av (.v (.slice none 0 0))
 |x=>x
def rO:List (Option Nat)→List aD→List aD
 |m::ms,c::cs=>xa m c::rO ms cs
 |_,cs=>cs
def KC(m:List (Option Nat)):aD→aD
 | .agg cs=>.agg (rO m cs)
 |x=>xa (m.headD none) x
def aP.Ac(s:aP)(k:Nat)(m:List (Option Nat)):aP:=
 {s with cS:=match s.cS[k]? with|some x=>s.cS.set k (KC m x)|none=>s.cS}
theorem RZ{w:World}{ro:Nat→Prop}{σ:Heap}{β:Nat→Value}{N:Nat}{m:Option Nat}{x:aD}{c:Value}(h:bs w ro σ β N x c):bs w ro σ β N (xa m x) c:=by
 unfold xa
 split
 ·cases m with
  |none=>exact h
  |some n=>
   refine .av _ _ ?_
   cases h with
   |av _ _ h=>
    cases h;exact .aO n [] none 0 (fun _=>undef) (Nat.le_refl _) (Nat.zero_le _) (by simp) (by simp) (by simp)
 ·exact h
theorem zdV{m:List (Option Nat)}{cs:List aD}{j:Nat}{x:aD}(h:(rO m cs)[j]? =some x): ∃y p,cs[j]? =some y∧x=xa p y:=by
 induction m generalizing cs j with
 |nil=>exact⟨x,none,by simpa[rO]using h,by unfold xa;split<;>rfl⟩
 |cons a m aY=>
  cases cs with
  |nil=>simp[rO]at h
  |cons c cs=>
   cases j with
   |zero=>simp[rO]at h;exact⟨c,a,rfl,h.symm⟩
   |succ j=>simp only[rO,List.getElem?_cons_succ]at h⊢;exact aY h
theorem zdW(m:List (Option Nat))(cs:List aD):(rO m cs).length=cs.length:=by
 induction m generalizing cs with
 |nil=>rfl
 |cons a m aY=>cases cs<;>simp[rO,aY]
theorem zdX{w:World}{ro:Nat→Prop}{σ:Heap}{β:Nat→Value}{N:Nat}{m:List (Option Nat)}{x:aD}{c:Value}(h:bs w ro σ β N x c):bs w ro σ β N (KC m x) c:=by
 unfold KC
 split
 ·cases h with
  |agg cs c aa ae=>
   refine .agg _ _ (by rw[aa,zdW]) fun j y af=>?_
   obtain⟨z,p,aS,rfl⟩:=zdV af;exact RZ (ae j z aS)
 ·exact RZ h
theorem cn.Ac{s bp:aP}(k:Nat)(m:List (Option Nat))(h:s.Ac k m=bp):cn s bp:=by
 subst h
 intro E G a w ⟨β,ro,h⟩
 unfold aP.Ac
 cases aj:s.cS[k]? with
 |none=>exact⟨β,ro,h⟩
 |some x=>
  refine⟨β,ro,h.defers,by simp[h.size],fun i y ax=>?_,h.heap,h.ic,h.trans,h.base⟩
  rw[List.getElem?_set]at ax
  split at ax
  ·rename_i e
   subst e
   split at ax
   ·simp only[Option.some.injEq]at ax
    subst ax;exact zdX (h.slot k x aj)
   ·cases ax
  ·exact h.slot i y ax
end Go.aL
namespace Go.aL
open Go
theorem cn.zdY{s bp:aP}(k e n:Nat)(aj:s.cS[k]? =some (.av (.v (.slice none 0 0))))(ad:s.base≤s.next)
 (h:({s with cS:=s.cS.set k (.aO s.next),heap:=(s.next,.row false e n [])::s.heap,next:=s.next+1}:aP)=bp):cn s bp:=by
 subst h
 intro E G a w ⟨β,ro,ag⟩
 have jm:aE s.heap s.next=none:=by
  cases ah:aE s.heap s.next with
  |none=>rfl
  |some p=>have:=ag.trans.new _ _ ah;omega
 have qy:=bs.val (ag.slot k _ aj)
 have fe:=ag.new (w':=w) s.next jm ad (Nat.le_refl _) (.row false e n []) (.slice none 0 0) rfl rfl rfl (Nat.le_refl _) (fun _ _=>rfl) (fun c hc=>by simp[b3]at hc) rfl
  (.row e n [] [] (by rw[dS];exact⟨by simp,.inl ⟨⟨none,rfl,fun _ h=>(by cases h)⟩,rfl⟩⟩) (by simp) (by simp))
 refine⟨_,ro,fe.defers,by simpa using fe.size,fun i y ax=>?_,fe.heap,fe.ic,fe.trans,fe.base⟩
 rw[List.getElem?_set]at ax
 split at ax
 ·rename_i aB
  subst aB
  split at ax
  ·simp only[Option.some.injEq]at ax
   subst ax;refine .aO _ _ (Nat.lt_succ_self _) fun z bD cJ dQ _=>?_
   rw[qy];exact(dS _ _ _).symm
  ·cases ax
 ·exact fe.slot i y ax
end Go.aL
namespace Go.aL
open Go
def uZ(σ:Heap):aD→Option a6
 | .av x=>some x
 | .aO id=>match aE σ id with
  |some (.row _ _ n es)=>some (.aO n es)
  |_=>none
 | .ref id=>match aE σ id with
  |some (.bM bP)=>bP.view
  |_=>none
 |_=>none
def Ad(σ:Heap):List aD→Option (List a6)
 |[]=>some []
 |x::r=>match uZ σ x,Ad σ r with
  |some y,some l=>some (y::l)
  |_,_=>none
mutual
def jO(σ:Heap):aD→aD
 | .aO id=>match aE σ id with
  |some (.row _ _ n es)=>.av (.aO n es)
  |_=>.aO id
 | .ptr id off=>match aE σ id with
  |some (.box _ cs)=>(match Ad σ (cs.drop off)with
   |some l=>.av (.ptr l)
   |none=>.ptr id off)
  |_=>.ptr id off
 | .agg cs=>.agg (h6 σ cs)
 | .tuple cs=>.tuple (h6 σ cs)
 | .fn f p q=>.fn f (h6 σ p) (h6 σ q)
 | .av x=>.av x
 | .cW id i off=>.cW id i off
 | .dA id n=>.dA id n
 | .ref id=>match aE σ id with
  |some (.bM bP)=>(match bP.view with
   |some x=>.av x
   |none=>.ref id)
  |_=>.ref id
 | .top=>.top
def h6(σ:Heap):List aD→List aD
 |[]=>[]
 |x::r=>jO σ x::h6 σ r
end
theorem u0(σ:Heap): ∀(l:List aD),(h6 σ l).length=l.length
 |[]=>rfl
 |x::r=>by simp[h6,u0 σ r]
theorem u1(σ:Heap): ∀{l:List aD} {j:Nat} {x:aD},(h6 σ l)[j]? =some x→∃y,l[j]? =some y∧x=jO σ y
 |[],j,x,h=>by simp[h6]at h
 |y::r,j,x,h=>by
  cases j with
  |zero=>simp[h6]at h;exact⟨y,by simp,h.symm⟩
  |succ j=>simp[h6]at h;simpa using u1 σ h
theorem R0(σ:Heap): ∀{l:List aD} {m:List a6},Ad σ l=some m→∀{j:Nat} {x:a6},m[j]? =some x→∃y,l[j]? =some y∧uZ σ y=some x
 |[],m,h,j,x,af=>by simp[Ad]at h;subst h;simp at af
 |y::r,m,h,j,x,af=>by
  simp only[Ad]at h
  split at h
  ·rename_i z l aa ae
   simp only[Option.some.injEq]at h;subst h
   cases j with
   |zero=>simp at af;subst af;exact⟨y,rfl,aa⟩
   |succ j=>simp at af;simpa using R0 σ ae af
  ·cases h
abbrev u2(ro:Nat→Prop)(σ:Heap)(β:Nat→Value):Nat→Prop:=fun b=>ro b∨Own σ β b
theorem R1{w:World}{ro:Nat→Prop}{σ:Heap}{β:Nat→Value}{N id:Nat}(bb:hj w ro σ β N){z:Bool}{t:TypeId}{n:Nat}{es:List (List a6)}(ah:aE σ id=some (.row z t n es)):cR w (u2 ro σ β) (.aO n es) (β id):=by
 have an:=bb.c6 id _ ah
 cases an with
 |row t n es xs aa ae au=>exact aa.Ku ae (fun j x af=>(au j x af).keep (fun _ _=>rfl) fun _ h=>.inl h) fun b ad=>.inr ⟨id,_,ah,rfl,ad⟩
 |gb t n es aa=>exact aa.keep (fun _ _=>rfl) fun _ h=>.inl h
theorem R2{w:World}{ro:Nat→Prop}{σ:Heap}{β:Nat→Value}{N id:Nat}(bb:hj w ro σ β N){bP:wR}(ah:aE σ id=some (.bM bP)){av:a6}(aw:bP.view=some av):cR w (u2 ro σ β) av (β id):=by
 have an:=bb.c6 id _ ah
 cases an with
 |bM _ b o aa ae au=>exact bP.QR av aw w ro _ _ o b au aa ae (fun _ h=>.inl h) (.inr ⟨id,_,ah,rfl,aa⟩)
theorem zdZ{w:World}{ro:Nat→Prop}{σ:Heap}{β:Nat→Value}{N:Nat}(bb:hj w ro σ β N){x:aD}{c:Value}{y:a6}(h:bs w ro σ β N x c)(ax:uZ σ x=some y):cR w (u2 ro σ β) y c:=by
 cases h with
 |av x c hx=>
  simp only[uZ,Option.some.injEq]at ax;subst ax;exact hx.keep (fun _ _=>rfl) fun _ h=>.inl h
 |aO id c aq ak=>
  simp only[uZ]at ax
  split at ax
  ·rename_i z t n es ah
   simp only[Option.some.injEq]at ax;subst ax;rw[ak z t n es ah];exact R1 bb ah
  ·cases ax
 |ref id c aq ak=>
  simp only[uZ]at ax
  split at ax
  ·rename_i bP ah
   rw[ak bP ah];exact R2 bb ah ax
  ·cases ax
 |_=>cases ax
theorem KD{w:World}{ro:Nat→Prop}{σ:Heap}{β:Nat→Value}{N:Nat}(bb:hj w ro σ β N){x:aD}{c:Value}(h:bs w ro σ β N x c):bs w (u2 ro σ β) σ β N (jO σ x) c:=by
 induction h with
 |aO id c aq ak=>
  simp only[jO]
  split
  ·rename_i z t n es ah
   rw[ak z t n es ah];exact .av _ _ (R1 bb ah)
  ·exact .aO id c aq ak
 |ptr id off c aq ak=>
  simp only[jO]
  split
  ·rename_i t cs ah
   split
   ·rename_i l KE
    obtain⟨b,ad,rfl⟩:=ak t cs ah
    have an:=bb.c6 id _ ah
    cases an with
    |box t cs b' arr aB bf ck ep=>
     rw[ad]at aB;simp only[Value.pointer.injEq,Option.some.injEq,Addr.mk.injEq,and_true]at aB;subst aB
     have at_: ∀j x,l[j]? =some x→∃y,cs[off+j]? =some y∧uZ σ y=some x:=fun j x af=>by
      obtain⟨y,aa,ae⟩:=R0 σ KE af;rw[List.getElem?_drop]at aa
      exact⟨y,aa,ae⟩
     refine .av _ _ (.ptr l _ (fun j=>arr.getD (off+j) undef) (fun j x af=>?_) fun j x af=>?_)
     ·obtain⟨y,aa,_⟩:=at_ j x af
      refine⟨.inr ⟨id,_,ah,rfl,by rw[ad];rfl⟩,?_⟩
      have bH:off+j<arr.size:=by rw[ck];exact(List.getElem?_eq_some_iff.1 aa).1
      rw[addLit,cell_of_row w b (off+j) arr t (0,0) bf];simp[bH]
     ·obtain⟨y,aa,ae⟩:=at_ j x af
      exact zdZ bb (ep _ y aa) ae
   ·exact .ptr id off c aq ak
  ·exact .ptr id off c aq ak
 |av x c h=>exact .av x c (h.keep (fun _ _=>rfl) fun _ h=>.inl h)
 |agg cs c aa _ aY=>
  refine .agg _ c (by rw[u0];exact aa) fun j x af=>?_
  obtain⟨y,ax,rfl⟩:=u1 σ af;exact aY j y ax
 |tuple cs c aa _ aY=>
  refine .tuple _ c (by rw[u0];exact aa) fun j x af=>?_
  obtain⟨y,ax,rfl⟩:=u1 σ af;exact aY j y ax
 |cW id i off c aa ae=>exact .cW id i off c aa ae
 |dA id n c aa ae=>exact .dA id n c aa ae
 |fn f p q c d aa ae _ _ hl ho=>
  refine .fn f _ _ c d (by rw[u0];exact aa) (by rw[u0];exact ae) (fun j x af=>?_) (fun j x af=>?_)
  ·obtain⟨y,ax,rfl⟩:=u1 σ af
   exact hl j y ax
  ·obtain⟨y,ax,rfl⟩:=u1 σ af
   exact ho j y ax
 |ref id c aq ak=>
  simp only[jO]
  split
  ·rename_i bP ah
   split
   ·rename_i av aw
    rw[ak bP ah];exact .av _ _ (R2 bb ah aw)
   ·exact .ref id c aq ak
  ·exact .ref id c aq ak
 |top c=>exact .top c
mutual
def jP:aD→Bool
 | .av (.v _)=>true
 | .agg cs=>m9 cs
 | .tuple cs=>m9 cs
 |_=>false
def m9:List aD→Bool
 |[]=>true
 |x::r=>jP x&&m9 r
end
theorem DI: ∀{cs:List aD},m9 cs=true→∀{j:Nat} {x:aD},cs[j]? =some x→jP x=true
 |[],_,j,x,h=>by simp at h
 |y::r,ad,j,x,h=>by
  simp only[m9,Bool.and_eq_true]at ad
  cases j with
  |zero=>simp at h;subst h;exact ad.1
  |succ j=>simp at h;exact DI ad.2 h
theorem DJ{w w':World}{ro ro':Nat→Prop}{σ bV:Heap}{β zR:Nat→Value}{N M:Nat}{x:aD}{c:Value}(h:bs w ro σ β N x c)(ak:jP x=true):bs w' ro' bV zR M x c:=by
 induction h with
 |av x c h=>
  cases h with
  |v _ hx=>exact .av _ _ (.v _ hx)
  |ptr=>simp[jP]at ak
  |aO=>simp[jP]at ak
  |mp=>simp[jP]at ak
  |et=>simp[jP]at ak
  |li=>simp[jP]at ak
 |agg cs c aa _ aY=>
  simp only[jP]at ak;exact .agg cs c aa fun j x af=>aY j x af (DI ak af)
 |tuple cs c aa _ aY=>
  simp only[jP]at ak;exact .tuple cs c aa fun j x af=>aY j x af (DI ak af)
 |_=>simp[jP]at ak
section
variable {P:Program} {G:a8} {s:aP}
theorem dR.KF{o:Oper}{x:Operand}{xs:Array Operand}{ts:Array TypeId}(an:o.op= .call {callee:=.value x,args:=xs,argTypes:=ts}){f:FuncId}{p q:List aD}(hx:aJ G s x= .fn (.func f) p q)
 (gC:m5 P f=true){args:List aD}(h3:h6 s.heap (p++xs.toList.map (aJ G s)++q)=args)(o5:e4 args=true){r:aD}(hc:dG P G f args [] 0 fun dH u3=>dH=r∧u3=[])(hsc:jP r=true):
 dR P G o s (s.put o.dst r):=by
 intro E a w ⟨β,ro,h⟩ zdq zdr Kf
 have lL:=h.eval x
 rw[hx]at lL
 generalize he:a.eval x=Kg at lL
 cases lL with
 |fn _ _ _ c d aa ae ak aI=>
  unfold Oper.wp;simp only[execOp,an,resolve,he,Deferred.ofValue,Sem.run_bind,Sem.run_pure,Result.andThen_ok,invoke];rw[Dt gC]
  have nT: ∀b,Own s.heap β b→b<w.heap.size:=fun b ⟨k,p,aj,ak,bg⟩=>(h.heap.c6 k p aj).hL ak bg
  have hlen:args.length=p.length+xs.size+q.length:=by rw[←h3,u0];simp[Nat.add_assoc]
  have ec: ∀i y,(p++xs.toList.map (aJ G s)++q)[i]? =some y→bs w ro s.heap β s.next y ((c++xs.map a.eval++d).getD i undef):=fun i y ax=>by
   rw[Array.getD_eq_getD_getElem?]
   rcases Nat.lt_or_ge i (p.length+xs.size)with hi|hi
   ·rw[List.getElem?_append_left (by simpa using hi)]at ax
    rw[Array.getElem?_append_left (by simpa[aa]using hi)]
    rcases Nat.lt_or_ge i p.length with mw|mw
    ·rw[List.getElem?_append_left mw]at ax
     rw[Array.getElem?_append_left (by omega),←Array.getD_eq_getD_getElem?]
     exact ak i y ax
    ·rw[List.getElem?_append_right mw,List.getElem?_map]at ax
     rw[Array.getElem?_append_right (by omega),aa]
     cases aS:xs.toList[i-p.length]? with
     |none=>simp[aS]at ax
     |some z=>
      simp only[aS,Option.map_some,Option.some.injEq]at ax;subst ax
      have pc:xs[i-p.length]? =some z:=by simpa using aS
      simp only[Array.getElem?_map,pc,Option.map_some,Option.getD_some]
      exact h.eval z
   ·rw[List.getElem?_append_right (by simpa using hi)]at ax
    rw[Array.getElem?_append_right (by simpa[aa]using hi),←Array.getD_eq_getD_getElem?]
    have:=aI _ y ax
    simpa[aa]using this
  have hp:=hc w β (u2 ro s.heap β) (c++xs.map a.eval++d) (by simp only[Array.size_append,Array.size_map];omega) (fun i y ax=>by
   rw[←h3]at ax;obtain⟨z,aS,rfl⟩:=u1 _ ax
   exact nW (KD h.heap (ec i z aS)) (m4 o5 (by rw[←h3];exact ax))) ⟨by simp[aE],by simp[aE],fun b _ ⟨_,_,ah,_⟩=>by simp[aE]at ah,fun b ad=>ad.elim (h.heap.lt b) (nT b)⟩
   (h.ic.keep (fun _ _=>rfl) fun _ h=>.inl h) (by simp[aE])
  refine Calls.mono hp fun e w' aI=>?_
  obtain⟨v,eQ,fG,dM,ro',cJ,rfl,⟨rfl,rfl⟩,dB,hP,cE⟩:=aI
  have lg: ∀b,¬Own ([]:Heap) β b:=fun b ⟨_,_,ah,_⟩=>by simp[aE]at ah
  have lM: ∀b,b<w.heap.size→w'.heap[b]? =w.heap[b]? :=fun b ad=>cE.frame b ad (lg b)
  have ah:=h.grow (w':=w') (ro':=ro) cE.os cE.tape cE.output cE.size lM (fun _ h=>h) (fun _ h=>.inl h)
  exact Kf _ _ ⟨β,ro,ah.put o.dst _ _ (DJ dB hsc)⟩
theorem zd0{o:Oper}{f:FuncId}{p q:Array Operand}(an:o.op= .makeFunc (.func f) p q):cQ P G o s (.fn (.func f) (p.toList.map (aJ G s)) (q.toList.map (aJ G s))):=
 fun _ a w β ro ag=>by
  refine⟨.func (.func f) (p.map a.eval) (q.map a.eval),by simp[execOp,an,Instr.makeFunc],.fn _ _ _ _ _ (by simp) (by simp) (fun j x af=>?_) (fun j x af=>?_)⟩<;>
  ·rw[List.getElem?_map]at af
   rw[Array.getD_eq_getD_getElem?,Array.getElem?_map]
   simp only[Array.getElem?_toList]at af
   obtain⟨z,aS,rfl⟩:=Option.map_eq_some_iff.1 af;simp only[aS,Option.map_some,Option.getD_some];exact ag.eval z
end
end Go.aL
namespace Go.aL
open Go
inductive Hint (P:Program) (G:a8):Type 1 where
 |run (n:Nat)
 |cast (u v:aD) (h:u=v)
 |idx {α:Type} (C:α→List a6) (l:List α) (n j:Nat) (e:α) (h:l[j]? =some e)
 |R3 (b:ByteArray) (j:Nat) (u:UInt8) (h:b.data.toList[j]? =some u)
 |len {α:Type} (C:α→List a6) (l:List α) (n:Nat)
 |call (f:FuncId) (args:List aD) (r:aD) (bV:Heap) (K:Nat) (h:dG P G f args [] 0 fun dH u3=>dH=r∧u3=bV)
 |take {α:Type} (C:α→List a6) (l:List α) (n k:Nat) (h:k≤l.length)
 |R4 {α:Type} (C:α→List a6) (l:List α) (e n:Nat)
 |app {α:Type} (C:α→List a6) (l m:List α) (id e n bytes:Nat) (h:l.length+m.length≤maxLen∧(l.length+m.length)*bytes≤140737488355328)
 |R5 (mx:Bool) (a b:Int)
 |lit (e n:Nat) (es:List (List a6))
 |row (e n:Nat) (es:List (List a6))
 |R6 (b:ByteArray)
 |Ac (k:Nat) (m:List (Option Nat))
 |m8 (id:Nat)
 |R7 {α:Type} (C:α→List a6) (l:List α) (id n j:Nat) (h:j<l.length)
 |R8 {α:Type} (C:α→List a6) (l:List α) (id n:Nat)
 |R9 {α:Type} (C:α→List a6) (l:List α) (id n j off k:Nat) (e:α) (h:l[j]? =some e)
 |Sa {α:Type} (C:α→List a6) (l:List α) (id n j off:Nat) (e:α) (h:l[j]? =some e)
 |mk {α:Type} (C:α→List a6) (d:α) (m c e n bytes:Nat) (h:m≤c∧c≤maxLen∧bytes*c≤281474976710656)
 |Sb (j:Nat)
 |Sc {α:Type} (C:α→List a6) (l:List α) (n:Nat) (lo hi:Option Nat) (aa:lo.getD 0≤hi.getD l.length) (ae:hi.getD l.length≤l.length)
 |Sd (b:ByteArray) (lo hi:Option Nat) (aa:lo.getD 0≤hi.getD b.size) (ae:hi.getD b.size≤b.size)
 |slot (k:Nat) (u v:aD) (h:u=v)
 |KG (k e n:Nat)
 |Se {α:Type} (C:α→List a6) (l:List α) (id n j off:Nat) (e:α) (h:l[j]? =some e)
 |Sf {α:Type} (C:α→List a6) (l:List α) (id n j off:Nat) (e ay:α) (h:l[j]? =some e)
 |Sg
 |KF (f:FuncId) (p q args:List aD) (r:aD) (h:dG P G f args [] 0 fun dH u3=>dH=r∧u3=[])
def xb:a6→a6
 | .aO _ []=>.v (.slice none 0 0)
 | .li _ []=>.v (.slice none 0 0)
 |x=>x
theorem Sh{w:World}{ro:Nat→Prop}{x:a6}{v:Value}(h:xb x= .v v)(aw:v.oneCell'=true):cR w ro x v:=by
 unfold xb at h
 split at h
 ·rename_i n
  simp only[a6.v.injEq]at h;subst h;exact .aO n [] none 0 (fun _=>undef) (Nat.le_refl _) (Nat.zero_le _) (by simp) (by simp) (by simp)
 ·rename_i i
  simp only[a6.v.injEq]at h;subst h;exact .li i [] _ (.aO (bZ i) [] none 0 (fun _=>undef) (Nat.le_refl _) (Nat.zero_le _) (by simp) (by simp) (by simp))
 ·subst h
  exact .v _ aw
section
variable {P:Program} {G:a8} {o:Oper} {s:aP}
theorem zd1{α:Type}(C:α→List a6)(d:α)(m c:Nat){t:TypeId}{x y:Operand}(an:o.op= .makeSlice t x y){e n bytes:Nat}(aH:qq P t=some (e,n,bytes)){zs:List Value}(aS:zeroCells P e=some zs)(sU:zs.all Value.oneCell'=true)
 (hd:zs.map a6.v=(C d).map xb)(hx:aJ G s x=iR (m:Int))(ax:aJ G s y=iR (c:Int))(bN:m≤c∧c≤maxLen∧bytes*c≤281474976710656):
 w2 P G o s e n ((List.replicate m d).map C):=by
 obtain⟨i,z,hu,hi,Si,ix,js,fa,hn⟩:=qd aH
 obtain⟨iw,_,o1,zV,hq,pc⟩:=zK (P:=P) aS default
 have Sj:z.cells=zs.toArray:=by
  rw[hi]at hq;simp only[Option.some.injEq]at hq;subst hq;rw[Si]at pc;simp only[Option.some.injEq]at pc;subst pc;exact o1
 have mq:zs.length=n:=by rw[←fa,Sj];simp
 have nY:(C d).length=n:=by rw[←mq];have:=congrArg List.length hd;simpa using this.symm
 have nS: ∀q∈(List.replicate m d).map C,q.length=n:=by
  intro q aI;rw[List.mem_map]at aI;obtain⟨u,hu,rfl⟩:=aI;rw[List.mem_replicate]at hu;rw[hu.2];exact nY
 refine⟨nS,fun E a w β ro ag=>?_⟩
 have KH:(c:Int)≤9223372036854775807:=by
  have h:=bN.2.1
  simp only[maxLen]at h;omega
 have z7:(i.bytes:Int)*(c:Int)≤281474976710656:=by
  have h:((i.bytes*c:Nat):Int)≤281474976710656:=by rw[js];have:=bN.2.2;omega
  rwa[Int.natCast_mul]at h
 have cr:=run_make (P:=P) w t e i z hu hi Si .i64 .i64 (m:Int) (c:Int) (by omega) (by have:=bN.1;omega) z7 KH
 simp only[Int.toNat_natCast,ix]at cr
 refine⟨.slice (some ⟨w.heap.size,0,none⟩) m c,(madeCells z.cells (c*n)).toList.take (m*n),_,by simp only[execOp,an,ag.ef hx,ag.ef ax,Sem.run_bind,cr,Result.andThen_ok,Sem.run_pure],⟨?_,.inr ⟨w.heap.size,c,madeCells z.cells (c*n),by rw[List.length_map,List.length_replicate],Nat.zero_le _,heap_alloc_new w _,by rw[List.length_map,List.length_replicate];exact bN.1,bN.2.1,size_madeCells _ _,by rw[List.length_map,List.length_replicate]⟩⟩,World.grownBy_alloc w _ none,fun b bg=>?_,fun j x af=>?_⟩
 ·rw[List.length_take,Array.length_toList,size_madeCells,List.length_map,List.length_replicate,Nat.min_eq_left (Nat.mul_le_mul_right _ bN.1)]
 ·simp only[b3]at bg
  split at bg
  ·cases bg
  ·simp at bg;omega
 ·have cM:j<m*n:=by
   have:=(List.getElem?_eq_some_iff.1 af).1
   rwa[j3 nS,List.length_map,List.length_replicate]at this
  have hm:j=(j/ n)*n+j%n:=by rw[Nat.mul_comm];exact(Nat.div_add_mod j n).symm
  have nX:j%n<n:=Nat.mod_lt _ hn
  have zd2:j/ n<m:=by rw[Nat.div_lt_iff_lt_mul hn];exact cM
  rw[hm,rr nS (i:=j/ n) (e:=C d) (by simp[zd2]) (j%n) nX]at af
  have au:j%n<zs.length:=by omega
  have zJ:j<c*n:=Nat.lt_of_lt_of_le cM (Nat.mul_le_mul_right _ bN.1)
  have aB:((madeCells z.cells (c*n)).toList.take (m*n)).getD j undef=zs[j%n]:=by
   simp[List.getD,cM,madeCells,Sj,zJ,mq,List.getElem?_eq_getElem au]
  rw[aB]
  have Sk:=congrArg (·[j%n]?) hd
  simp only[List.getElem?_map,af,List.getElem?_eq_getElem au,Option.map_some,Option.some.injEq]at Sk
  refine Sh Sk.symm ?_
  rw[List.all_eq_true]at sU;exact sU _ (List.getElem_mem au)
end
section
variable {P:Program} {G:a8} {o:Oper} {s:aP}
theorem Sl(j:Nat){t:TypeId}{x i:Operand}(an:o.op= .index t x i){len e:Nat}(hu:P.underlying t=some (.array len e))(hsc:scalar P e=true)(bN:(P.info? e).map (·.size)=some 1)(hi:aJ G s i=iR (j:Int)){cs:List aD}(hx:aJ G s x= .agg cs){v:aD}(aw:cs[j]? =some v)(af:j<len):cQ P G o s v:=
 fun _ a w β ro ag=>by
  have h:=ag.eval x
  rw[hx]at h;generalize he:a.eval x=c at h
  cases h with
  |agg _ c ai hc=>
   have bH:j<c.size:=by have:=(List.getElem?_eq_some_iff.1 aw).1;omega
   have zY:(sizeOf e).run P w= .ok 1 w:=by
    cases hi:P.info? e with
    |none=>simp[hi]at bN
    |some i=>simp[hi]at bN;simp[sizeOf,typeInfo,hi,bN]
   refine⟨c[j],?_,by simpa[bH]using hc _ v aw⟩
   simp[execOp,an,he,ag.ef hi,Instr.index,asIntOf,run_underlying hu,zY,part,zE hsc,bH,af]
end
section
variable {P:Program} {G:a8}
def DK:Hint P G→aD
 | .run _=>.top
 | .cast u _ _=>u
 | .idx C l n j _ _=>.tuple [.av (.aO n (l.map C)),iR (j:Int)]
 | .R3 b j _ _=>.tuple [vs b,iR (j:Int)]
 | .len C l n=>.av (.aO n (l.map C))
 | .call f args _ _ _ _=>.tuple (.fn (.func f) [] []::args)
 | .take C l n k _=>.tuple [.av (.aO n (l.map C)),iR (k:Int)]
 | .R4 C l _ n=>.av (.aO n (l.map C))
 | .app C l m id _ n _ _=>.tuple [.aO id,.av (.aO n (l.map C)),.av (.aO n (m.map C))]
 | .R5 _ a b=>.tuple [iR a,iR b]
 | .lit _ n es=>.av (.aO n es)
 | .row _ n es=>.av (.aO n es)
 | .R6 b=>vs b
 | .Ac _ _=>.top
 | .m8 _=>.top
 | .R7 C l id n j _=>.tuple [.aO id,.av (.aO n (l.map C)),iR (j:Int)]
 | .R8 C l id n=>.tuple [.aO id,.av (.aO n (l.map C))]
 | .R9 C l id n j off _ _ _=>.tuple [.cW id j off,.av (.aO n (l.map C))]
 | .Sa C l id n j off _ _=>.tuple [.cW id j off,.av (.aO n (l.map C))]
 | .mk C d m c _ _ _ _=>.tuple [iR (m:Int),iR (c:Int),.av (.ptr ((C d).map xb))]
 | .Sb j=>iR (j:Int)
 | .Sc C l n lo hi _ _=>.tuple [.av (.aO n (l.map C)),(match lo with|some k=>iR (k:Int)|none=>.top),(match hi with|some k=>iR (k:Int)|none=>.top)]
 | .Sd b lo hi _ _=>.tuple [vs b,(match lo with|some k=>iR (k:Int)|none=>.top),(match hi with|some k=>iR (k:Int)|none=>.top)]
 | .slot _ u _ _=>u
 | .KG _ _ _=>.top
 | .Se C l id n j off _ _=>.tuple [.cW id j off,.av (.aO n (l.map C))]
 | .Sf C l id n j off _ ay _=>.tuple [.cW id j off,.av (.aO n (l.map C)),.av (.ptr (C ay))]
 | .Sg=>.top
 | .KF f p q args _ _=>.tuple (.fn (.func f) p q::args)
def rowOf(σ:Heap)(id n:Nat):Option (TypeId × List (List a6)):=
 match aE σ id with
 |some (.row false t m es)=>match Nat.beq m n with
  |true=>some (t,es)
  |false=>none
 |_=>none
def qz(P:Program)(G:a8)(o:Oper)(s:aP):Hint P G→Option (aD × aP)
 | .cast _ v _=>match rM P G o s with
  |some a=>some (a,s.put o.dst v)
  |none=>none
 | .idx C _ n _ e _=>match o.op with
  | .indexAddr t x i=>match j7 P t with
   |some cJ=>match Nat.beq cJ n with
    |true=>some (.tuple [aJ G s x,aJ G s i],s.put o.dst (.av (.ptr (C e))))
    |false=>none
   |none=>none
  |_=>none
 | .R3 _ _ u _=>match o.op with
  | .index t x i=>match isStr P t with
   |true=>some (.tuple [aJ G s x,aJ G s i],s.put o.dst (.av (.v (.int .u8 (u.toNat:Int)))))
   |false=>none
  |_=>none
 | .len _ l _=>match o.op with
  | .call c=>match c.callee,c.args.toList,c.argTypes.toList with
   | .builtin .len,[x],[t]=>match isSlice P t with
    |true=>some (aJ G s x,s.put o.dst (iR (l.length:Int)))
    |false=>none
   |_,_,_=>none
  |_=>none
 | .call f _ r bV K _=>match o.op with
  | .call c=>match c.callee with
   | .value x=>match m5 P f&&(e4 (c.args.toList.map fun y=>hO s.heap (aJ G s y))&&(gB K r&&(ld K bV&&Nat.ble s.base s.next)))with
    |true=>some (.tuple (aJ G s x::c.args.toList.map fun y=>hO s.heap (aJ G s y)),{s with heap:=lf s.next bV++s.heap,next:=s.next+K}.put o.dst (qo s.next r))
    |false=>none
   |_=>none
  |_=>none
 | .take C l n k _=>match o.op with
  | .slice t x none (some y) none=>match j7 P t with
   |some cJ=>match Nat.beq cJ n with
    |true=>some (.tuple [aJ G s x,aJ G s y],s.put o.dst (.av (.aO n ((l.take k).map C))))
    |false=>none
   |none=>none
  |_=>none
 | .R4 _ _ _ _=>none
 | .app C l m id e n bytes _=>match o.op with
  | .call c=>match c.callee,c.args.toList,c.argTypes.toList with
   | .builtin .append,[x,y],[t,bD]=>match qq P t with
    |some (ay,cJ,b')=>match Nat.beq t bD&&(Nat.beq ay e&&(Nat.beq cJ n&&(Nat.beq b' bytes&&(Nat.ble s.base id&&Nat.blt id s.next)))),rowOf s.heap id n with
     |true,some (bf,es)=>match Nat.beq bf e with
      |true=>some (.tuple [aJ G s x,.av (.aO n es),aJ G s y],aP.put ⟨eg id s.cS,(id,.row false e n ((l++m).map C))::dv id s.heap,s.next,s.base⟩ o.dst (.aO id))
      |false=>none
     |_,_=>none
    |none=>none
   |_,_,_=>none
  |_=>none
 | .R5 mx a b=>match o.op with
  | .call c=>match c.callee,c.args.toList,mx with
   | .builtin .min,[x,y],false=>some (.tuple [aJ G s x,aJ G s y],s.put o.dst (iR (if b<a then b else a)))
   | .builtin .max,[x,y],true=>some (.tuple [aJ G s x,aJ G s y],s.put o.dst (iR (if b>a then b else a)))
   |_,_,_=>none
  |_=>none
 | .lit e n es=>match o.op with
  | .buildSlice t len parts=>match n1 P G s t len parts.toList with
   |some (ay,cJ,dQ)=>match Nat.beq ay e&&Nat.beq cJ n with
    |true=>some (.av (.aO n dQ),s.put o.dst (.av (.aO n es)))
    |false=>none
   |none=>none
  |_=>none
 | .row e n es=>match o.op with
  | .buildSlice t len parts=>match n1 P G s t len parts.toList with
   |some (ay,cJ,dQ)=>match Nat.beq ay e&&(Nat.beq cJ n&&Nat.ble s.base s.next)with
    |true=>some (.av (.aO n dQ),{s with heap:=(s.next,.row false e n es)::s.heap,next:=s.next+1}.put o.dst (.aO s.next))
    |false=>none
   |none=>none
  |_=>none
 | .R6 b=>match o.op with
  | .range t x=>match isStr P t&&Nat.ble s.base s.next with
   |true=>some (aJ G s x,{s with heap:=(s.next,.bM (qv b 0))::s.heap,next:=s.next+1}.put o.dst (.ref s.next))
   |false=>none
  |_=>none
 | .R7 _ _ id n j _=>match o.op with
  | .indexAddr t x i=>match j7 P t,rowOf s.heap id n with
   |some cJ,some (_,es)=>match Nat.beq cJ n with
    |true=>some (.tuple [aJ G s x,.av (.aO n es),aJ G s i],s.put o.dst (.cW id j 0))
    |false=>none
   |_,_=>none
  |_=>none
 | .R8 _ l id n=>match o.op with
  | .call c=>match c.callee,c.args.toList,c.argTypes.toList with
   | .builtin .len,[x],[t]=>match isSlice P t,rowOf s.heap id n with
    |true,some (_,es)=>some (.tuple [aJ G s x,.av (.aO n es)],s.put o.dst (iR (l.length:Int)))
    |_,_=>none
   |_,_,_=>none
  |_=>none
 | .R9 C _ id n _ off k e _=>match o.op with
  | .load t x=>match mi P t,rowOf s.heap id n with
   |some bk,some (_,es)=>match Nat.beq bk k&&(Nat.ble 1 k&&Nat.ble k ((C e).drop off).length)with
    |true=>some (.tuple [aJ G s x,.av (.aO n es)],s.put o.dst (.agg ((((C e).drop off).map aD.av).take k)))
    |false=>none
   |_,_=>none
  |_=>none
 | .Sa C _ id n _ off e _=>match o.op with
  | .load t x=>match scalar P t,rowOf s.heap id n,(C e).drop off with
   |true,some (_,es),v::_=>some (.tuple [aJ G s x,.av (.aO n es)],s.put o.dst (.av v))
   |_,_,_=>none
  |_=>none
 | .Sc C l n lo hi _ _=>match o.op with
  | .slice t x Ae Af none=>match j7 P t,Ae.isSome==lo.isSome&&Af.isSome==hi.isSome with
   |some cJ,true=>match Nat.beq cJ n with
    |true=>some (.tuple [aJ G s x,(match Ae with|some y=>aJ G s y|none=>.top),(match Af with|some y=>aJ G s y|none=>.top)],s.put o.dst (.av (.aO n (((l.take (hi.getD l.length)).drop (lo.getD 0)).map C))))
    |false=>none
   |_,_=>none
  |_=>none
 | .Sd b lo hi _ _=>match o.op with
  | .slice t x Ae Af none=>match isStr P t&&(Ae.isSome==lo.isSome&&Af.isSome==hi.isSome)with
   |true=>some (.tuple [aJ G s x,(match Ae with|some y=>aJ G s y|none=>.top),(match Af with|some y=>aJ G s y|none=>.top)],s.put o.dst (vs (b.extract (lo.getD 0) (hi.getD b.size))))
   |false=>none
  |_=>none
 | .Sb j=>match o.op with
  | .index t x i=>match P.underlying t,aJ G s x with
   |some (.array len e),.agg cs=>match cs[j]?,scalar P e&&(Nat.blt j len&&((P.info? e).map (·.size)==some 1))with
    |some v,true=>some (aJ G s i,s.put o.dst v)
    |_,_=>none
   |_,_=>none
  |_=>none
 | .mk C d m _ e n bytes _=>match o.op with
  | .makeSlice t x y=>match qq P t,zeroCells P e with
   |some (ay,cJ,b'),some zs=>match Nat.beq ay e&&(Nat.beq cJ n&&(Nat.beq b' bytes&&(zs.all Value.oneCell'&&Nat.ble s.base s.next)))with
    |true=>some (.tuple [aJ G s x,aJ G s y,.av (.ptr (zs.map a6.v))],{s with heap:=(s.next,.row false e n ((List.replicate m d).map C))::s.heap,next:=s.next+1}.put o.dst (.aO s.next))
    |false=>none
   |_,_=>none
  |_=>none
 | .Se _ _ id n j off _ _=>match o.op with
  | .fieldAddr t x f=>match sT P t f,rowOf s.heap id n with
   |some k,some (_,es)=>some (.tuple [aJ G s x,.av (.aO n es)],s.put o.dst (.cW id j (off+k)))
   |_,_=>none
  |_=>none
 | .Sf C l id n j off e ay _=>match o.op with
  | .store t p x=>match rowOf s.heap id n,iQ (cT (aJ G s x))with
   |some (bt,es),some vs=>match((P.info? t).map (·.size)==some vs.length)&&Nat.ble (off+vs.length) n with
    |true=>some (.tuple [aJ G s p,.av (.aO n es),.av (.ptr (en (C e) off vs))],{s with heap:=eN s.heap id (.row false bt n ((l.set j ay).map C))}.put o.dst .top)
    |false=>none
   |_,_=>none
  |_=>none
 | .Sg=>match o.op with
  | .makeFunc (.func f) p q=>some (.top,s.put o.dst (.fn (.func f) (p.toList.map (aJ G s)) (q.toList.map (aJ G s))))
  |_=>none
 | .KF f p q _ r _=>match o.op with
  | .call c=>match c.callee with
   | .value x=>match m5 P f&&(e4 (h6 s.heap (p++c.args.toList.map (aJ G s)++q))&&jP r)with
    |true=>some (.tuple (aJ G s x::h6 s.heap (p++c.args.toList.map (aJ G s)++q)),s.put o.dst r)
    |false=>none
   |_=>none
  |_=>none
 |_=>none
theorem Sm{α:Type}{a:Array α}{x:α}(h:a.toList=[x]):a= #[x]:=by apply Array.ext';simpa using h
theorem Ag{α:Type}{a:Array α}{x y:α}(h:a.toList=[x,y]):a= #[x,y]:=by apply Array.ext';simpa using h
end
end Go.aL
