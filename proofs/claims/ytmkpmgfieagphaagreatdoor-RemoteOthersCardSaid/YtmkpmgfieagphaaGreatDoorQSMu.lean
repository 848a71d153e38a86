/- The AV calculus, part K: append, make, cuts of slices and strings, small builtins, conversions. Conditions: none. -/
import Derived.Test.YtmkpmgfieagphaaGreatDoorQSMj
import Derived.Maps.AppendAt
import Derived.Orders
import Derived.Laws.RangeString
import Derived.Laws.RangeAny
namespace Go.aK
open Go
def ft(σ:Heap)(n:Nat):aC→Option (List (List a1))
 | .au (.aM m es)=>if m=n then some es else none
 | .au (.v (.slice none 0 0))=>some []
 | .au (.li i l)=>if bZ i=n then some (l.map (b9 i))else none
 | .aM id=>match aD σ id with
  |some (.row _ _ m es)=>if m=n then some es else none
  |_=>none
 |_=>none
section
variable {P:Program} {G:a8} {o:Oper} {s:aO}
theorem cN.elems{w:World}{ro:Nat→Prop}{n:Nat}{es:List (List a1)}{c:Value}(h:cN w ro (.aM n es) c):
 ∃b cap,c= .slice b es.length cap∧(∀e∈es,e.length=n)∧(b=none→es=[])∧∃f:Nat→Value,(∀a,b=some a→∀j,j<es.length*n→w.cell? (a.add j)=some (f j))∧∀j x,es.flatten[j]? =some x→cN w ro x (f j):=by
 cases h with
 |aM _ _ b cap f aa ae av aQ bL=>
  refine⟨b,cap,rfl,av,fun ad=>?_,f,fun a a6 j af=>?_,bL⟩
  ·rcases Nat.eq_zero_or_pos es.length with h|h
   ·exact List.eq_nil_of_length_eq_zero h
   ·obtain⟨a,a6,_⟩:=aQ h
    rw[ad]at a6;cases a6
  ·have ak:0<es.length:=by
    rcases Nat.eq_zero_or_pos es.length with h|h
    ·rw[h]at af;simp at af
    ·exact h
   obtain⟨bc,I1,hc⟩:=aQ ak;rw[a6]at I1;simp only[Option.some.injEq]at I1;subst I1;exact(hc j af).2
theorem vW{w:World}{ro:Nat→Prop}{σ:Heap}{β:Nat→Value}{N:Nat}(bd:gX w ro σ β N){x:aC}{c:Value}(h:bp w ro σ β N x c){n:Nat}{es:List (List a1)}(he:ft σ n x=some es):
 ∃b cap,c= .slice b es.length cap∧(∀e∈es,e.length=n)∧(b=none→es=[])∧∃f:Nat→Value,(∀a,b=some a→∀j,j<es.length*n→w.cell? (a.add j)=some (f j))∧∀j x,es.flatten[j]? =some x→cN w ro x (f j):=by
 cases h with
 |au x c hx=>
  cases x with
  |v y=>
   cases hx
   cases c with
   |slice a l hT=>
    cases a with
    |none=>
     cases l with
     |zero=>
      cases hT with
      |zero=>
       simp[ft]at he;subst he;exact⟨none,0,rfl,by simp,fun _=>rfl,fun _=>undef,by simp,by simp⟩
      |succ=>simp[ft]at he
     |succ=>simp[ft]at he
    |some=>simp[ft]at he
   |_=>simp[ft]at he
  |ptr=>simp[ft]at he
  |mp=>simp[ft]at he
  |ek=>simp[ft]at he
  |li i l=>
   simp only[ft]at he
   split at he
   ·rename_i hm
    subst hm;simp only[Option.some.injEq]at he;subst he
    cases hx with
    |li _ _ _ hx=>exact hx.elems
   ·cases he
  |aM m dN=>
   simp only[ft]at he
   split at he
   ·rename_i hm
    subst hm;simp only[Option.some.injEq]at he;subst he;exact hx.elems
   ·cases he
 |aM id c ar ak=>
  simp only[ft]at he
  split at he
  ·rename_i z t m dN ah
   split at he
   ·rename_i hm
    subst hm;simp only[Option.some.injEq]at he;subst he;rw[ak z t _ _ ah]
    have dj:=bd.c6 id _ ah
    cases dj with
    |row _ _ _ xs aa ae av=>
     rcases aa.2 with⟨⟨b,aw,_⟩,aV⟩|⟨g,cap,cur,aw,hc,zb5,hle,h5,dH,ld⟩
     ·have:dN=[]:=List.eq_nil_of_length_eq_zero aV
      subst this;rw[aw];exact⟨b,0,rfl,by simp,fun _=>rfl,fun _=>undef,by simp,by simp⟩
     ·rw[aw]
      refine⟨_,_,rfl,ae,by simp,fun j=>xs.getD j undef,fun a a6 j af=>?_,av⟩
      simp only[Option.some.injEq]at a6;subst a6;rw[addLit,Nat.zero_add,cell_of_row w g j cur t (0,0) zb5]
      have hx:xs[j]? =cur[j]? :=by rw[←ld,List.getElem?_take,if_pos af];simp
      have jB:j<xs.length:=by rw[aa.1];exact af
      rw[←hx];simp[List.getD,List.getElem?_eq_getElem jB]
    |gb _ _ _ aa=>exact aa.elems
   ·cases he
  ·cases he
 |_=>simp[ft]at he
theorem Cm{w:World}(t ty e:TypeId){i:TypeInfo}{z:Value}{n bytes:Nat}(aH:P.underlying t=some (.slice e))(hi:P.info? e=some i)(aV:i.zero=some z)(ik:i.size=n)(ji:i.bytes=bytes)(e8:z.cells.size=n)(hn:0<n)
 {v:Value}{len:Nat}{xs:List Value}(cZ:h2 w e n v len xs){b:Option Addr}{m cap:Nat}{news:List Value}(ar:news.length=m*n)(ad:b=none→m=0)(zb6: ∀a,b=some a→∀j u,news[j]? =some u→w.cell? (a.add j)=some u)
 (aa: ∀u∈news,u.oneCell'=true)(r6:len+m≤maxLen)(yV:(len+m)*bytes≤140737488355328):
 ∃bg w',(Builtin.append_ #[t,t] ty #[v,.slice b m cap]).run P w= .ok bg w'∧h2 w' e n bg (len+m) (xs++news)∧w.grownBy w' (b5 v)∧(∀k,b5 bg=some k→b5 v=some k∨w.heap.size≤k):=by
 by_cases hm:m=0
 ·subst hm
  have qV:news=[]:=List.eq_nil_of_length_eq_zero (by simpa using ar)
  subst qV;refine⟨v,w,?_,by simpa using cZ,World.grownBy.refl w _,fun k aj=>.inl aj⟩
  have Cn:(Builtin.firstCells n 0 (.slice b 0 cap)).run P w= .ok #[] w:=by
   cases b with
   |none=>simp[Builtin.firstCells]
   |some a=>simp[Builtin.firstCells,loadCells,loadCellsFrom]
  rcases cZ.2 with⟨⟨c,rfl,_⟩,rfl⟩|⟨g,hT,cur,rfl,_,_,hle,_⟩
  ·cases c<;>simp[Builtin.append_,run_underlying aH,sizeOf,typeInfo,hi,ik,Builtin.lenOf,Cn,storeCells]
  ·simp[Builtin.append_,run_underlying aH,sizeOf,typeInfo,hi,ik,Builtin.lenOf,Cn,storeCells,hle]
 ·cases b with
  |none=>exact absurd (ad rfl) hm
  |some a=>
   have eV:=zb6 a rfl
   have own:w.ownsRow 0 e n v len xs→_:=fun hs=>run_append_own_at (P:=P) w 0 t ty e i z n bytes aH hi aV ik ji e8 hn v len xs hs a m cap news ar eV aa r6 yV (Nat.zero_le _)
   have fin:w.ownsRow 0 e n v len xs→v.ownBlock=b5 v→∃bg w',(Builtin.append_ #[t,t] ty #[v,.slice (some a) m cap]).run P w= .ok bg w'∧h2 w' e n bg (len+m) (xs++news)∧w.grownBy w' (b5 v)∧(∀k,b5 bg=some k→b5 v=some k∨w.heap.size≤k):=by
    intro hs bf;obtain⟨bg,w',g1,g2,g3,_,g5⟩:=own hs;refine⟨bg,w',g1,.Cl g2,bf ▸ g3,fun k aj=>?_⟩
    have ey:bg.ownBlock=some k:=by
     cases bg with
     |slice c l p=>
      cases c with
      |none=>simp[b5]at aj
      |some c=>
       simp only[b5]at aj
       split at aj
       ·cases aj
       ·simpa[Value.ownBlock]using aj
     |pointer c=>
      rcases g2.2 with⟨h,_⟩|⟨_,_,_,h,_⟩<;>cases h
     |map c=>
      rcases g2.2 with⟨h,_⟩|⟨_,_,_,h,_⟩<;>cases h
     |_=>simp[b5]at aj
    rcases g5 with h|h
    ·rw[h,bf]at ey;exact .inl ey
    ·rw[h]at ey;simp at ey;exact .inr (by omega)
   rcases cZ.2 with⟨⟨c,rfl,_⟩,rfl⟩|⟨g,hT,cur,rfl,yW,ah,hle,h5,dH,ld⟩
   ·have hx:xs=[]:=List.eq_nil_of_length_eq_zero (by simpa using cZ.1)
    subst hx
    cases c with
    |none=>exact fin (World.ownsRow_nil w 0 e n) rfl
    |some c=>
     have cQ:=run_append_grow (P:=P) w t ty e i z aH hi aV c 0 0 [] (by simp) (by simp) a m cap news (by rw[ik];exact ar) eV (by omega) (by simp only[maxLen]at r6;omega) (growslice_fits (by omega) (by rw[ji];exact yV))
     have hs:=World.ownsRow_made (e:=e) (size:=n) w.drew (news.toArray++Builtin.zeroCells z.cells (grownCap w (0+m) 0 e-(0+m))) (grownCap w (0+m) 0 e) (base:=0) (Nat.zero_le _) (grownCap_le_maxLen w (0+m) 0 e r6) (by
      have:=grownCap_ge w (0+m) 0 e
      simp only[Array.size_append,List.size_toArray,size_zeroCells,e8,ar,←Nat.add_mul]
      congr 1
      omega)
     refine⟨_,_,cQ,?_,⟨rfl,rfl,rfl,by simp,fun k aj _=>Go.RowKit.Below.heap_alloc w.drew _ k aj⟩,fun k aj=>?_⟩
     ·have h0:=grownCap_ge w (0+m) 0 e
      refine⟨by simp[ar],.inr ⟨w.heap.size,grownCap w (0+m) 0 e,_,rfl,by omega,heap_alloc_new w.drew _,h0,grownCap_le_maxLen w (0+m) 0 e r6,?_,?_⟩⟩
      ·simp only[Array.size_append,List.size_toArray,size_zeroCells,e8,ar,←Nat.add_mul,List.length_nil,Nat.zero_add]at h0⊢
       congr 1
       omega
      ·simp only[Array.toList_append,List.nil_append,Nat.zero_add]
       rw[←ar];exact List.take_left
     ·simp only[b5]at aj
      split at aj
      ·cases aj
      ·simp at aj;exact .inr (by omega)
   ·exact fin ⟨cZ.1,.inr ⟨g,hT,cur,rfl,Nat.zero_le _,ah,hle,h5,dH,ld⟩⟩ (by simp[Value.ownBlock,b5,Nat.ne_of_gt yW])
def pS(P:Program)(t:TypeId):Option (Nat × Nat × Nat):=
 match P.underlying t with
 |some (.slice e)=>match P.info? e with
  |some i=>match i.zero with
   |some z=>if z.cells.size=i.size∧0<i.size then some (e,i.size,i.bytes)else none
   |none=>none
  |none=>none
 |_=>none
theorem pF{t e n bytes:Nat}(h:pS P t=some (e,n,bytes)): ∃i z,P.underlying t=some (.slice e)∧P.info? e=some i∧i.zero=some z∧i.size=n∧i.bytes=bytes∧z.cells.size=n∧0<n:=by
 unfold pS at h
 split at h
 ·rename_i ay hu
  split at h
  ·rename_i i hi
   split at h
   ·rename_i z aV
    split at h
    ·rename_i hc
     simp only[Option.some.injEq,Prod.mk.injEq]at h;obtain⟨rfl,rfl,rfl⟩:=h;exact⟨i,z,hu,hi,aV,rfl,rfl,hc.1,hc.2⟩
    ·cases h
   ·cases h
  ·cases h
 ·cases h
theorem yX{w:World}{ro:Nat→Prop}{n:Nat}{es:List (List a1)}(hn: ∀e∈es,e.length=n){f:Nat→Value}(hf: ∀j x,es.flatten[j]? =some x→cN w ro x (f j)):
 ((List.range (es.length*n)).map f).length=es.length*n∧(∀u∈(List.range (es.length*n)).map f,u.oneCell'=true)∧∀j x,es.flatten[j]? =some x→cN w ro x (((List.range (es.length*n)).map f).getD j undef):=by
 refine⟨by simp,fun u hu=>?_,fun j x af=>?_⟩
 ·rw[List.mem_map]at hu
  obtain⟨j,af,rfl⟩:=hu;rw[List.mem_range]at af
  have ar:=jS hn
  exact(hf j (es.flatten[j]'(by omega)) (by simp)).one
 ·have ar:=jS hn
  have cJ:=(List.getElem?_eq_some_iff.1 af).1
  have:j<es.length*n:=by omega
  simpa[List.getD,this]using hf j x af
theorem vX{w:World}{ro:Nat→Prop}{n:Nat}{es fs:List (List a1)}(hn: ∀e∈es,e.length=n){xs ys:List Value}(hx:xs.length=es.length*n)(aa: ∀j x,es.flatten[j]? =some x→cN w ro x (xs.getD j undef))
 (ae: ∀j x,fs.flatten[j]? =some x→cN w ro x (ys.getD j undef)): ∀j x,(es++fs).flatten[j]? =some x→cN w ro x ((xs++ys).getD j undef):=by
 intro j x af
 rw[List.flatten_append]at af
 have ar:=jS hn
 by_cases h:j<es.flatten.length
 ·rw[List.getElem?_append_left h]at af
  have:=aa j x af
  rw[List.getD,List.getElem?_append_left (by omega)]
  exact this
 ·rw[List.getElem?_append_right (by omega)]at af
  have:=ae _ x af
  rw[List.getD,List.getElem?_append_right (by omega),hx,←ar]
  exact this
theorem zb7(x y:Operand)(t:TypeId)(an:o.op= .call {callee:=.builtin .append,args:=#[x,y],argTypes:=#[t,t]}){e n bytes:Nat}(aH:pS P t=some (e,n,bytes))
 {id:Nat}(hx:aI G s x= .aM id){es:List (List a1)}(bb:aD s.heap id=some (.row false e n es))(ad:s.base≤id)(bI:id<s.next)
 {fs:List (List a1)}(ax:ft s.heap n (aI G s y)=some fs)(bQ:es.length+fs.length≤maxLen∧(es.length+fs.length)*bytes≤140737488355328):
 dO P G o s (aO.put ⟨ed id s.cO,(id,.row false e n (es++fs))::du id s.heap,s.next,s.base⟩ o.dst (.aM id)):=by
 intro E a w ⟨β,ro,ag⟩ K Q hK
 obtain⟨i,z,hu,hi,aV,ik,ji,e8,hn⟩:=pF aH
 obtain⟨b,cap,hc,l2,oA,f,hX,oB⟩:=vW ag.heap (ag.eval y) ax
 have dj:=ag.heap.c6 id _ bb
 cases dj with
 |row _ _ _ xs cZ b7 eV=>
  have lj:a.eval x=β id:=by
   have h:=ag.eval x
   rw[hx]at h;generalize a.eval x=c at h
   cases h with
   |aM _ _ _ ak=>exact ak _ _ _ _ bb
  obtain⟨nt,oC,qW⟩:=yX l2 oB
  obtain⟨bg,w',cn,kn,cQ,bf⟩:=Cm (P:=P) t o.type e hu hi aV ik ji e8 hn cZ (b:=b) (m:=fs.length) (cap:=cap) nt (fun ad=>by rw[oA ad];rfl)
   (fun bc a6 j u af=>by
    have cJ:=(List.getElem?_eq_some_iff.1 af).1
    rw[nt]at cJ
    have aa:=hX bc a6 j cJ
    simp[cJ]at af
    rw[aa,af]) oC bQ.1 bQ.2
  unfold Oper.wp;simp only[execOp,an,resolve,invoke,builtin,Sem.run_bind,Sem.run_pure,Result.andThen_ok,List.map_toArray,List.map_cons,List.map_nil,lj,hc,cn]
  have jd: ∀k,k<w.heap.size→b5 (β id)≠some k→w'.heap[k]? =w.heap[k]? :=fun k aj b7=>cQ.block k aj (fun e=>b7 e.symm)
  have cc: ∀k,ro k→w'.heap[k]? =w.heap[k]? :=fun k aj=>jd k (ag.heap.lt k aj) fun bf=>ag.heap.fe k aj ⟨id,_,bb,rfl,bf⟩
  refine hK _ _ ⟨gN β id bg,ro,c3.put (ag.renew (w':=w') id ad bI bb (.row false e n (es++fs)) bg cQ.os cQ.tape cQ.output cQ.size jd bf rfl ?_) o.dst _ _ ?_⟩
  ·refine .row e n _ _ (by rw[dP,List.length_append];exact kn) (fun ay jT=>?_) (fun j x af=>?_)
   ·rw[List.mem_append]at jT
    rcases jT with h|h
    ·exact b7 _ h
    ·exact l2 _ h
   ·exact(vX b7 cZ.1 eV qW j x af).keep cc fun _ h=>h
  ·exact .aM _ _ bI fun z bz cH dN _=>(dP _ _ _).symm
theorem zb8(x y:Operand)(t:TypeId)(an:o.op= .call {callee:=.builtin .append,args:=#[x,y],argTypes:=#[t,t]}){e n bytes:Nat}(aH:pS P t=some (e,n,bytes))
 (hx:aI G s x= .au (.v (.slice none 0 0)))(ad:s.base≤s.next)
 {fs:List (List a1)}(ax:ft s.heap n (aI G s y)=some fs)(bQ:fs.length≤maxLen∧fs.length*bytes≤140737488355328):
 dO P G o s ({s with heap:=(s.next,.row false e n fs)::s.heap,next:=s.next+1}.put o.dst (.aM s.next)):=by
 intro E a w ⟨β,ro,ag⟩ K Q hK
 obtain⟨i,z,hu,hi,aV,ik,ji,e8,hn⟩:=pF aH
 obtain⟨b,cap,hc,l2,oA,f,hX,oB⟩:=vW ag.heap (ag.eval y) ax
 obtain⟨nt,oC,qW⟩:=yX l2 oB
 obtain⟨bg,w',cn,kn,cQ,bf⟩:=Cm (P:=P) (w:=w) t o.type e hu hi aV ik ji e8 hn (v:=.slice none 0 0) (len:=0) (xs:=[]) ⟨by simp,.inl ⟨⟨none,rfl,fun _ h=>(by cases h)⟩,rfl⟩⟩ (b:=b) (m:=fs.length) (cap:=cap) nt (fun ad=>by rw[oA ad];rfl)
  (fun bc a6 j u af=>by
   have cJ:=(List.getElem?_eq_some_iff.1 af).1
   rw[nt]at cJ
   have aa:=hX bc a6 j cJ
   simp[cJ]at af
   rw[aa,af]) oC (by omega) (by rw[Nat.zero_add];exact bQ.2)
 unfold Oper.wp
 simp only[execOp,an,resolve,invoke,builtin,Sem.run_bind,Sem.run_pure,Result.andThen_ok,List.map_toArray,List.map_cons,List.map_nil,ag.ec hx,hc,cn]
 have jc:aD s.heap s.next=none:=by
  cases ah:aD s.heap s.next with
  |none=>rfl
  |some p=>have:=ag.trans.new _ _ ah;omega
 have hw: ∀b,b<w.heap.size→w'.heap[b]? =w.heap[b]? :=fun b ad=>cQ.block b ad (by simp[b5])
 have cc: ∀b,ro b→w'.heap[b]? =w.heap[b]? :=fun b ad=>hw b (ag.heap.lt b ad)
 refine hK _ _ ⟨gN β s.next bg,ro,c3.put (ag.new (w':=w') s.next jc ad (Nat.le_refl _) (.row false e n fs) bg cQ.os cQ.tape cQ.output cQ.size hw (fun b ad=>?_) rfl ?_) o.dst _ _ ?_⟩
 ·rcases bf b ad with h|h
  ·simp[b5]at h
  ·exact h
 ·refine .row e n _ _ (by rw[dP];simpa using kn) l2 (fun j x af=>(qW j x af).keep cc fun _ h=>h)
 ·exact .aM _ _ (Nat.lt_succ_self _) fun z bz cH dN _=>(dP _ _ _).symm
theorem Qp{cap len:Nat}{isS:Bool}{lo hi mx:Option Value}{l h m:Nat}(hm:(mx=none∧m=cap)∨∃k,mx=some (.int k (m:Int)))(bd:(hi=none∧mx=none∧h=len)∨∃k,hi=some (.int k (h:Int)))
 (ar:(lo=none∧l=0)∨∃k,lo=some (.int k (l:Int)))(aa:l≤h)(ae:h≤m)(av:m≤cap)(w:World):(Instr.sliceBounds isS len cap lo hi mx).run P w= .ok (l,h,m) w:=by
 rcases hm with⟨rfl,rfl⟩|⟨zig,rfl⟩<;>rcases bd with⟨rfl,r7,rfl⟩|⟨zih,rfl⟩<;>rcases ar with⟨rfl,rfl⟩|⟨Qq,rfl⟩
 all_goals first
  |(cases r7;done)
  |simp[Instr.sliceBounds,Instr.sliceBound,asIntOf,aa,ae,av]
theorem Co (t : TypeId) (x : Operand) (lo hi : Option Operand) (an : o.op = .slice t x lo hi none) (aH : P.underlying t = some .string) {b : ByteArray} (hx : aI G s x = .au (.v (.string b))) {l h : Nat}
    (ar : (lo = none ∧ l = 0) ∨ ∃ y k, lo = some y ∧ aI G s y = .au (.v (.int k (l : Int)))) (bd : (hi = none ∧ h = b.size) ∨ ∃ y k, hi = some y ∧ aI G s y = .au (.v (.int k (h : Int)))) (aa : l ≤ h) (ae : h ≤ b.size) :
    cL P G o s (.au (.v (.string (b.extract l h)))) :=
  fun _ a w β ro ag => by
    have ad := Qp (P := P) (cap := b.size) (len := b.size) (isS := false) (lo := lo.map a.eval) (hi := hi.map a.eval) (mx := none) (l := l) (h := h) (m := b.size) (.inl ⟨rfl, rfl⟩)
      (by rcases bd with ⟨rfl, rfl⟩ | ⟨y, k, rfl, ax⟩
          · exact .inl ⟨rfl, rfl, rfl⟩
          · exact .inr ⟨k, by simp [ag.ec ax]⟩)
      (by rcases ar with ⟨rfl, rfl⟩ | ⟨y, k, rfl, ax⟩
          · exact .inl ⟨rfl, rfl⟩
          · exact .inr ⟨k, by simp [ag.ec ax]⟩) aa ae (Nat.le_refl _) w
    exact ⟨_, by simp [execOp, an, ag.ec hx, Instr.sliceAt, run_underlying aH, Instr.slice, ad], .fC rfl⟩
theorem Qr(src dst:TypeId)(x:Operand)(an:o.op= .convert src dst x)(ai:(P.underlying src).isSome=true){bk:IntKind}(hd:P.underlying dst=some (.int bk)){k:IntKind}{n:Int}(hx:aI G s x= .au (.v (.int k n))):
 cL P G o s (.au (.v (.int bk (bk.wrap n)))):=
 fun _ a w β ro ag=>by
  cases hu:P.underlying src with
  |none=>simp[hu]at ai
  |some d=>exact⟨_,by simp[execOp,an,ag.ec hx,convert,run_underlying hu,run_underlying hd,Conv.intToInt],.fC rfl⟩
theorem Qs(x y:Operand)(ts:Array TypeId)(an:o.op= .call {callee:=.builtin .min,args:=#[x,y],argTypes:=ts}){k:IntKind}{m n:Int}(hx:aI G s x= .au (.v (.int k m)))(ax:aI G s y= .au (.v (.int k n))):
 cL P G o s (.au (.v (.int k (if n<m then n else m)))):=
 fun _ a w β ro ag=>⟨.int k (if n<m then n else m),by simp[execOp,an,resolve,invoke,builtin,ag.ec hx,ag.ec ax,run_min_int2],.fC rfl⟩
theorem Qt(x y:Operand)(ts:Array TypeId)(an:o.op= .call {callee:=.builtin .max,args:=#[x,y],argTypes:=ts}){k:IntKind}{m n:Int}(hx:aI G s x= .au (.v (.int k m)))(ax:aI G s y= .au (.v (.int k n))):
 cL P G o s (.au (.v (.int k (if n>m then n else m)))):=
 fun _ a w β ro ag=>⟨.int k (if n>m then n else m),by simp[execOp,an,resolve,invoke,builtin,ag.ec hx,ag.ec ax,run_max_int2],.fC rfl⟩
theorem zb9(cv ty:TypeId)(x y:Operand)(an:o.op= .binOp .add cv x y ty){u v:ByteArray}(hx:aI G s x= .au (.v (.string u)))(ax:aI G s y= .au (.v (.string v)))(bQ:u.size+v.size≤9223372036854775807):
 cL P G o s (.au (.v (.string (u++v)))):=
 ov .add cv ty x y an hx ax (by
  simp only[jU]
  rw[if_neg (by simp only[IntKind.max_i64];omega)])
end
end Go.aK
namespace Go.aK
open Go
def pT(s:aO)(o:Oper)(v:aC):Option aO:=some (s.put o.dst v)
def isStr(P:Program)(t:TypeId):Bool:=
 match P.underlying t with
 |some .string=>true
 |_=>false
def Cp(P:Program)(t:TypeId):Bool:=
 match P.underlying t with
 |some .bool=>true
 |_=>false
theorem tL{P:Program}{t:TypeId}(h:isStr P t=true):P.underlying t=some .string:=by
 unfold isStr at h
 split at h
 ·assumption
 ·cases h
theorem Cq{P:Program}{t:TypeId}(h:Cp P t=true):P.underlying t=some .bool:=by
 unfold Cp at h
 split at h
 ·assumption
 ·cases h
def I2(P:Program)(G:a8)(b:Builtin)(xs:List Operand)(ts:List TypeId)(s:aO):Option aC:=
 match b,xs,ts with
 | .len,[x],[t]=>match kT s.heap (aI G s x)with
  |some m=>if isSlice P t then some (.au (.v (.int .i64 (m:Int))))else none
  |none=>match aI G s x with
   | .au (.v (.string b))=>if isStr P t then some (.au (.v (.int .i64 (b.size:Int))))else none
   |_=>match Ci P t with
    |some n=>some (.au (.v (.int .i64 (n:Int))))
    |none=>none
 | .min,[x,y],_=>match aI G s x,aI G s y with
  | .au (.v (.int k m)),.au (.v (.int bk n))=>if k=bk then some (.au (.v (.int k (if n<m then n else m))))else none
  |_,_=>none
 | .max,[x,y],_=>match aI G s x,aI G s y with
  | .au (.v (.int k m)),.au (.v (.int bk n))=>if k=bk then some (.au (.v (.int k (if n>m then n else m))))else none
  |_,_=>none
 |_,_,_=>none
def qX(P:Program)(G:a8)(o:Oper)(s:aO):Option aC:=
 match o.op with
 | .move x=>some (aI G s x)
 | .assign x=>some (aI G s x)
 | .load t x=>match fl s.heap (aI G s x)with
  |some cs=>match lV P t with
   |some n=>if n≤cs.length∧0<n then some (.agg (cs.take n))else none
   |none=>if scalar P t then match cs with
    |y::_=>some y
    |[]=>none
    else none
  |none=>none
 | .fieldAddr t x f=>match r4 P t f,jC s.heap (aI G s x)with
  |some k,true=>some (qG k (aI G s x))
  |_,_=>none
 | .nilCheck x=>match jC s.heap (aI G s x)with
  |true=>some (aI G s x)
  |false=>none
 | .field t x f=>match aI G s x,vU P t f with
  | .agg cs,some (off,none)=>match cs[off]? with
   |some v=>some v
   |none=>none
  | .agg cs,some (off,some n)=>if off+n≤cs.length then some (.agg ((cs.drop off).take n))else none
  |_,_=>none
 | .indexAddr t x i=>match aI G s i with
  | .au (.v (.int _ (.ofNat j)))=>match jW P t with
   |some n=>match l0 s.heap n j (aI G s x)with
    |some p=>some p
    |none=>none
   |none=>match tJ P t,fl s.heap (aI G s x)with
    |some (len,n),some _=>if j<len then match iD (j*n) (aI G s x)with
     |some p=>some p
     |none=>none
     else none
    |_,_=>none
  |_=>none
 | .index t x i=>match aI G s i,aI G s x with
  | .au (.v (.int _ (.ofNat j))),.au (.v (.string b))=>if isStr P t then match b.data.toList[j]? with
   |some u=>some (.au (.v (.int .u8 (u.toNat:Int))))
   |none=>none
   else none
  |_,_=>none
 | .binOp op cv x y _=>match aI G s x,aI G s y with
  | .au (.v (.bool u)),.au (.v (.bool v))=>if Cp P cv then match op with
   | .eql=>some (.au (.v (.bool (u==v))))
   | .neq=>some (.au (.v (.bool (!(u==v)))))
   |_=>none
   else none
  | .au (.v u),.au (.v v)=>match jU op u v with
   |some c=>some (.au (.v c))
   |none=>none
  | .agg cs,.agg ds=>match mB P cv,ht cs,ht ds with
   |some fs,some xs,some ys=>match yI P 0 fs xs ys with
    |some b=>match op with
     | .eql=>some (.au (.v (.bool b)))
     | .neq=>some (.au (.v (.bool (!b))))
     |_=>none
    |none=>none
   |_,_,_=>none
  |_,_=>none
 | .unOp op _ x=>match op,aI G s x with
  | .not,.au (.v (.bool b))=>some (.au (.v (.bool (!b))))
  | .neg,.au (.v (.int k n))=>some (.au (.v (.int k (k.wrap (0-n)))))
  |_,_=>none
 | .pick c x y=>match aI G s c with
  | .au (.v (.bool true))=>some (aI G s x)
  | .au (.v (.bool false))=>some (aI G s y)
  |_=>none
 | .extract x i=>match aI G s x with
  | .tuple cs=>match cs[i]? with
   |some v=>some v
   |none=>none
  |_=>none
 | .build t parts=>match places P t,zeroCells P t with
  |some pl,some zs=>if zs.all Value.oneCell'∧(parts.toList.map fun p=>(p.1,aI G s p.2)).all (fun p=>(cP p.2).all (eB s.heap))then
   match jX pl (zs.map fun z=>.au (.v z)) (parts.toList.map fun p=>(p.1,aI G s p.2))with
   |some ds=>some (.agg ds)
   |none=>none
   else none
  |_,_=>none
 | .call c=>match c.callee with
  | .builtin b=>I2 P G b c.args.toList c.argTypes.toList s
  |_=>none
 | .convert src dst x=>match aI G s x,P.underlying dst with
  | .au (.v (.int _ n)),some (.int bk)=>if(P.underlying src).isSome then some (.au (.v (.int bk (bk.wrap n))))else none
  |_,_=>none
 |_=>none
def I3(P:Program)(G:a8)(o:Oper)(s:aO):Option aO:=
 match qX P G o s with
 |some v=>pT s o v
 |none=>match o.op with
  | .store t p x=>match aI G s p with
   | .ptr id off=>match aD s.heap id with
    |some (.box bt cs)=>if(cP (aI G s x)).all (eB s.heap)∧(P.info? t).map (·.size)=some (cP (aI G s x)).length∧off+(cP (aI G s x)).length≤cs.length
     then pT {s with heap:=eL s.heap id (.box bt (eh cs off (cP (aI G s x))))} o .top else none
    |_=>none
   | .cV id i off=>match aD s.heap id with
    |some (.row false bt n es)=>match es[i]?,iE (cP (aI G s x))with
     |some e,some vs=>if(P.info? t).map (·.size)=some vs.length∧off+vs.length≤n then pT {s with heap:=eL s.heap id (.row false bt n (es.set i (eh e off vs)))} o .top else none
     |_,_=>none
    |_=>none
   |_=>none
  | .alloc t=>match zeroCells P t with
   |some zs=>if zs.all Value.oneCell'∧s.base≤s.next then pT {s with heap:=(s.next,.box t (zs.map fun z=>.au (.v z)))::s.heap,next:=s.next+1} o (.ptr s.next 0)else none
   |none=>none
  | .box t x=>if(cP (aI G s x)).all (eB s.heap)∧s.base≤s.next then pT {s with heap:=(s.next,.box t (cP (aI G s x)))::s.heap,next:=s.next+1} o (.ptr s.next 0)else none
  |_=>none
section
variable {P:Program} {G:a8} {o:Oper} {s bn:aO} {v:aC}
theorem zca{b:Builtin}{args:Array Operand}{ts:Array TypeId}(an:o.op= .call {callee:=.builtin b,args,argTypes:=ts})(h:I2 P G b args.toList ts.toList s=some v):cL P G o s v:=by
 unfold I2 at h
 split at h
 ·rename_i x t a6 zcb
  have aA:args= #[x]:=by apply Array.ext';simpa using a6
  have bh:ts= #[t]:=by apply Array.ext';simpa using zcb
  subst aA bh
  split at h
  ·rename_i m hm
   split at h
   ·rename_i aH
    simp only[Option.some.injEq]at h;subst h;exact IV x t an aH hm
   ·cases h
  ·split at h
   ·rename_i b hx
    split at h
    ·rename_i aH
     simp only[Option.some.injEq]at h;subst h;exact IW x t an (tL aH) hx
    ·cases h
   ·split at h
    ·rename_i n hn
     simp only[Option.some.injEq]at h;subst h;exact Qc x t an hn
    ·cases h
 ·rename_i x y a6
  have aA:args= #[x,y]:=by apply Array.ext';simpa using a6
  subst aA
  split at h
  ·rename_i k m bk n hx ax
   split at h
   ·rename_i aj
    subst aj;simp only[Option.some.injEq]at h;subst h;exact Qs x y ts an hx ax
   ·cases h
  ·cases h
 ·rename_i x y a6
  have aA:args= #[x,y]:=by apply Array.ext';simpa using a6
  subst aA
  split at h
  ·rename_i k m bk n hx ax
   split at h
   ·rename_i aj
    subst aj;simp only[Option.some.injEq]at h;subst h;exact Qt x y ts an hx ax
   ·cases h
  ·cases h
 ·cases h
theorem I4(h:qX P G o s=some v):cL P G o s v:=by
 unfold qX at h
 split at h
 ·rename_i x an
  simp only[Option.some.injEq]at h;subst h;exact Pv x an
 ·rename_i x an
  simp only[Option.some.injEq]at h;subst h;exact Pw x an
 ·rename_i t x an
  split at h
  ·rename_i cs hc
   split at h
   ·rename_i n hn
    split at h
    ·rename_i ar
     simp only[Option.some.injEq]at h;subst h;exact Px t x an hn hc ar.1 ar.2
    ·cases h
   ·split at h
    ·rename_i ai
     split at h
     ·simp only[Option.some.injEq]at h;subst h;exact Iz t x an ai hc
     ·cases h
    ·cases h
  ·cases h
 ·rename_i t x f an
  split at h
  ·rename_i k aj hc
   simp only[Option.some.injEq]at h;subst h;exact PA t x f an aj hc
  ·cases h
 ·rename_i x an
  split at h
  ·rename_i hc
   simp only[Option.some.injEq]at h;subst h;exact PB x an hc
  ·cases h
 ·rename_i t x f an
  split at h
  ·rename_i cs off hx aH
   split at h
   ·rename_i v aw
    simp only[Option.some.injEq]at h;subst h;exact Qg t x f an aH hx aw
   ·cases h
  ·rename_i cs off n hx aH
   split at h
   ·rename_i hn
    simp only[Option.some.injEq]at h;subst h;exact Qh t x f an aH hx hn
   ·cases h
  ·cases h
 ·rename_i t x i an
  split at h
  ·rename_i k j hi
   split at h
   ·rename_i n hn
    split at h
    ·rename_i p ak
     simp only[Option.some.injEq]at h;subst h;exact Qe t x i an hn hi ak
    ·cases h
   ·split at h
    ·rename_i len n cs aH dH
     split at h
     ·rename_i af
      split at h
      ·rename_i p ak
       simp only[Option.some.injEq]at h;subst h;exact IX t x i an aH hi af dH ak
      ·cases h
     ·cases h
    ·cases h
  ·cases h
 ·rename_i t x i an
  split at h
  ·rename_i k j b hi hx
   split at h
   ·rename_i aH
    split at h
    ·rename_i u hu
     simp only[Option.some.injEq]at h;subst h;exact Qf t x i an (tL aH) hi hx hu
    ·cases h
   ·cases h
  ·cases h
 ·rename_i op cv x y ty an
  split at h
  ·rename_i u v hx ax
   split at h
   ·rename_i aH
    split at h
    ·simp only[Option.some.injEq]at h;subst h;exact PS cv ty x y an (Cq aH) hx ax
    ·simp only[Option.some.injEq]at h;subst h;exact PT cv ty x y an (Cq aH) hx ax
    ·cases h
   ·cases h
  ·rename_i u v _ hx ax
   split at h
   ·rename_i c hc
    simp only[Option.some.injEq]at h;subst h;exact ov _ cv ty x y an hx ax hc
   ·cases h
  ·rename_i cs ds hx ax
   split at h
   ·rename_i fs xs ys hf nk lX
    split at h
    ·rename_i b ad
     split at h
     ·simp only[Option.some.injEq]at h;subst h;exact PZ cv ty x y an hf hx ax nk lX ad
     ·simp only[Option.some.injEq]at h;subst h;exact P0 cv ty x y an hf hx ax nk lX ad
     ·cases h
    ·cases h
   ·cases h
  ·cases h
 ·rename_i op t x an
  split at h
  ·rename_i b hx
   simp only[Option.some.injEq]at h;subst h;exact P1 t x an hx
  ·rename_i k n hx
   simp only[Option.some.injEq]at h;subst h;exact P2 t x an hx
  ·cases h
 ·rename_i c x y an
  split at h
  ·rename_i hc
   simp only[Option.some.injEq]at h;subst h;exact yK c x y an hc rfl
  ·rename_i hc
   simp only[Option.some.injEq]at h;subst h;exact yK c x y an hc rfl
  ·cases h
 ·rename_i x i an
  split at h
  ·rename_i cs hx
   split at h
   ·rename_i v aw
    simp only[Option.some.injEq]at h;subst h;exact P3 x i an hx aw
   ·cases h
  ·cases h
 ·rename_i t parts an
  split at h
  ·rename_i pl zs ak aV
   split at h
   ·rename_i hc
    split at h
    ·rename_i ds hf
     simp only[Option.some.injEq]at h;subst h;exact Ql t parts an ak aV hc.1 rfl hc.2 hf
    ·cases h
   ·cases h
  ·cases h
 ·rename_i c an
  split at h
  ·rename_i b ad
   obtain⟨callee,args,ts⟩:=c;simp only at ad h;subst ad;exact zca an h
  ·cases h
 ·rename_i src dst x an
  split at h
  ·rename_i k n bk hx hd
   split at h
   ·rename_i ai
    simp only[Option.some.injEq]at h;subst h;exact Qr src dst x an ai hd hx
   ·cases h
  ·cases h
 ·cases h
theorem zcc(h:I3 P G o s=some bn):dO P G o s bn:=by
 unfold I3 at h
 split at h
 ·rename_i v aw
  simp only[pT,Option.some.injEq]at h;subst h;exact(I4 aw).step
 ·split at h
  ·rename_i t p x an
   split at h
   ·rename_i id off ak
    split at h
    ·rename_i bt cs ah
     split at h
     ·rename_i hc
      simp only[pT,Option.some.injEq]at h;subst h;exact PK t p x an ak ah rfl hc.1 hc.2.1 hc.2.2
     ·cases h
    ·cases h
   ·rename_i id i off ak
    split at h
    ·rename_i bt n es ah
     split at h
     ·rename_i e vs he aw
      split at h
      ·rename_i hc
       simp only[pT,Option.some.injEq]at h;subst h;exact PM t p x an ak ah he aw hc.1 hc.2
      ·cases h
     ·cases h
    ·cases h
   ·cases h
  ·rename_i t an
   split at h
   ·rename_i zs aV
    split at h
    ·rename_i hc
     simp only[pT,Option.some.injEq]at h;subst h;exact PI t an hc.2 aV hc.1
    ·cases h
   ·cases h
  ·rename_i t x an
   split at h
   ·rename_i hc
    simp only[pT,Option.some.injEq]at h;subst h;exact PG t x an hc.2 hc.1
   ·cases h
  ·cases h
def dL(ops:Array Oper)(s:aO)(o:Oper):Option Bool:=
 match o.guard with
 |none=>some true
 |some (j,b)=>match lY ops j with
  |some d=>match s.cO[d]? with
   |some (.au (.v (.bool c)))=>some (match b,c with
    |true,true=>true
    |false,false=>true
    |_,_=>false)
   |some (.tuple _)=>some false
   |_=>none
  |none=>none
def vY(P:Program)(G:a8)(ops:Array Oper):Nat→List Oper→aO→Option aO
 |0,_,s=>some s
 |n+1,o::r,s=>match dL ops s o with
  |some true=>match I3 P G o s with
   |some bn=>vY P G ops n r bn
   |none=>none
  |some false=>vY P G ops n r (s.put o.dst (.tuple []))
  |none=>none
 |_+1,[],_=>none
variable {Q:Exit→aO→Prop}
theorem cu.step{ops:Array Oper}{rest:List Oper}(ah:dL ops s o=some true)(h:dO P G o s bn)(k:cu P G ops Q rest bn):cu P G ops Q (o::rest) s:=by
 unfold dL at ah
 split at ah
 ·rename_i hn
  exact cu.cons hn h k
 ·rename_i j b hn
  split at ah
  ·rename_i d hd
   split at ah
   ·rename_i c ai
    simp only[Option.some.injEq]at ah
    have yY:b=c:=by cases b<;>cases c<;>simp_all
    subst yY;exact cu.guarded hn hd ai h k
   ·cases ah
   ·cases ah
  ·cases ah
theorem cu.pass{ops:Array Oper}{rest:List Oper}(ah:dL ops s o=some false)(k:cu P G ops Q rest (s.put o.dst (.tuple []))):cu P G ops Q (o::rest) s:=by
 unfold dL at ah
 split at ah
 ·cases ah
 ·rename_i j b hn
  split at ah
  ·rename_i d hd
   split at ah
   ·rename_i c ai
    simp only[Option.some.injEq]at ah
    have yY:c= !b:=by cases b<;>cases c<;>simp_all
    subst yY;exact cu.zbL hn hd ai k
   ·rename_i cs ai
    exact cu.zbM hn hd ai k
   ·cases ah
  ·cases ah
theorem cu.run{ops:Array Oper}: ∀(n:Nat) {l:List Oper} {s bn:aO},vY P G ops n l s=some bn→cu P G ops Q (l.drop n) bn→cu P G ops Q l s
 |0,l,s,bn,h,k=>by
  simp[vY]at h;subst h;exact k
 |n+1,[],s,bn,h,k=>by simp[vY]at h
 |n+1,o::r,s,bn,h,k=>by
  simp only[vY]at h
  split at h
  ·rename_i ah
   split at h
   ·rename_i s1 aa
    exact cu.step ah (zcc aa) (cu.run n h k)
   ·cases h
  ·rename_i ah
   exact cu.pass ah (cu.run n h k)
  ·cases h
end
end Go.aK
namespace Go.aK
open Go
abbrev iF(n:Int):aC:=.au (.v (.int .i64 n))
abbrev ph(b:Bool):aC:=.au (.v (.bool b))
abbrev vs(s:ByteArray):aC:=.au (.v (.string s))
abbrev zcd(l:List a1):List aC:=l.map .au
def mG:Nat→Nat→List (Nat × aC)→List aC
 |_,0,_=>[]
 |i,k+1,[]=>.top::mG (i+1) k []
 |i,k+1,(j,v)::r=>if i=j then v::mG (i+1) k r else .top::mG (i+1) k ((j,v)::r)
theorem rN(n:Int)(aa: -9223372036854775808≤n)(ae:n≤9223372036854775807):IntKind.i64.wrap n=n:=by
 rw[IntKind.wrap_i64];omega
def l3(σ:Heap):Heap→Heap
 |[]=>[]
 |(k,.box t cs)::r=>(k,.box t (kl σ cs))::l3 σ r
 |(k,.row z t n es)::r=>(k,.row z t n es)::l3 σ r
 |(k,.bK bM)::r=>(k,.bK bM)::l3 σ r
def ko(σ:Heap):eg→eg
 | .box t cs=>.box t (kl σ cs)
 | .row z t n es=>.row z t n es
 | .bK bM=>.bK bM
theorem pU(σ:Heap): ∀(h:Heap) (k:Nat),aD (l3 σ h) k=(aD h k).map (ko σ)
 |[],k=>by simp[l3,aD]
 |(j,.box t cs)::r,k=>by
  by_cases af:j=k
  ·simp[l3,aD,af,ko]
  ·simp[l3,aD,af,pU σ r k]
 |(j,.row z t n es)::r,k=>by
  by_cases af:j=k
  ·simp[l3,aD,af,ko]
  ·simp[l3,aD,af,pU σ r k]
 |(j,.bK bM)::r,k=>by
  by_cases af:j=k
  ·simp[l3,aD,af,ko]
  ·simp[l3,aD,af,pU σ r k]
theorem h2.I5{w:World}{ro:Nat→Prop}{t:TypeId}{n:Nat}{v:Value}{es:List (List a1)}{xs:List Value}(h:h2 w t n v es.length xs)(hn: ∀e∈es,e.length=n)(hc: ∀j x,es.flatten[j]? =some x→cN w ro x (xs.getD j undef))
 (cc: ∀b,b5 v=some b→ro b):cN w ro (.aM n es) v:=by
 rcases h.2 with⟨⟨b,aw,_⟩,aV⟩|⟨g,cap,cur,aw,ak,ah,hle,h5,dH,ld⟩
 ·subst aw
  have:es=[]:=List.eq_nil_of_length_eq_zero aV
  subst this;exact .aM n [] b 0 (fun _=>undef) (by simp) (Nat.zero_le _) (by simp) (by simp) (by simp)
 ·subst aw
  refine .aM n es _ cap (fun j=>xs.getD j undef) hle h5 hn (fun _=>⟨⟨g,0,none⟩,rfl,fun j af=>⟨cc g (by simp[b5,Nat.ne_of_gt ak]),?_⟩⟩) hc
  rw[addLit,Nat.zero_add,cell_of_row w g j cur t (0,0) ah]
  have hx:xs[j]? =cur[j]? :=by rw[←ld,List.getElem?_take,if_pos af];simp
  have jB:j<xs.length:=by rw[h.1];exact af
  rw[←hx];simp[List.getD,List.getElem?_eq_getElem jB]
def mH(s:aO)(id:Nat):aO:=
 match aD s.heap id with
 |some (.row false t n es)=>⟨kl [(id,.row true t n es)] s.cO,l3 [(id,.row true t n es)] (gm s.heap id),s.next,s.base⟩
 |_=>s
theorem cl.mH(s:aO)(id:Nat):cl s (mH s id):=by
 unfold Go.aK.mH
 split
 ·rename_i t n es bb
  intro E G a w ⟨β,ro,h⟩
  have dj:=h.heap.c6 id _ bb
  cases dj with
  |row _ _ _ xs cZ hn hc=>

   have Cr:cN w (fun b=>ro b∨b5 (β id)=some b) (.aM n es) (β id):=cZ.I5 hn (fun j x af=>(hc j x af).keep (fun _ _=>rfl) fun _ h=>.inl h) fun b ad=>.inr ad
   have gx: ∀k o,aD (gm s.heap id) k=some o→aD s.heap k=some o∧k≠id:=by
    intro k o aj;rw[yz]at aj
    split at aj
    ·cases aj
    ·rename_i b7
     exact⟨aj,fun e=>b7 e.symm⟩
   have view: ∀x c,bp w ro s.heap β s.next x c→bp w (fun b=>ro b∨b5 (β id)=some b) (l3 [(id,.row true t n es)] (gm s.heap id)) β s.next (hE [(id,.row true t n es)] x) c:=by
    intro x c hx
    induction hx with
    |au x c hx=>exact .au x c (hx.keep (fun _ _=>rfl) fun _ h=>.inl h)
    |agg cs c aa _ aZ=>
     refine .agg _ c (by rw[nn];exact aa) fun j x af=>?_
     obtain⟨y,ax,rfl⟩:=ox _ af;exact aZ j y ax
    |tuple cs c aa _ aZ=>
     refine .tuple _ c (by rw[nn];exact aa) fun j x af=>?_
     obtain⟨y,ax,rfl⟩:=ox _ af;exact aZ j y ax
    |ptr k off c ar ak=>
     refine .ptr k off c ar fun bz cs' ah=>?_
     rw[pU]at ah
     cases aj:aD (gm s.heap id) k with
     |none=>simp[aj]at ah
     |some p=>
      cases p with
      |box t2 yZ=>exact ak t2 yZ (gx k _ aj).1
      |row=>simp[aj,ko]at ah
      |bK=>simp[aj,ko]at ah
    |dx k off c ar ak=>
     refine .dx k off c ar fun bz cs' ah=>?_
     rw[pU]at ah
     cases aj:aD (gm s.heap id) k with
     |none=>simp[aj]at ah
     |some p=>
      cases p with
      |box t2 yZ=>exact ak t2 yZ (gx k _ aj).1
      |row=>simp[aj,ko]at ah
      |bK=>simp[aj,ko]at ah
    |cV k i off c ar ak=>
     refine .cV k i off c ar fun ij bz cH dN ah=>?_
     rw[pU]at ah
     cases aj:aD (gm s.heap id) k with
     |none=>simp[aj]at ah
     |some p=>
      cases p with
      |box t2 yZ=>simp[aj,ko]at ah
      |bK=>simp[aj,ko]at ah
      |row z2 t2 gu zce=>
       simp only[aj,ko,Option.map_some,Option.some.injEq,eg.row.injEq]at ah;obtain⟨rfl,rfl,rfl,rfl⟩:=ah;exact ak _ _ _ _ (gx k _ aj).1
    |aM k c ar ak=>
     simp only[hE,aD]
     by_cases aj:id=k
     ·subst aj
      simp only[if_true];rw[ak _ _ _ _ bb];exact .au _ _ Cr
     ·simp only[if_neg aj]
      refine .aM k c ar fun ij bz cH dN ah=>?_
      rw[pU]at ah
      cases ey:aD (gm s.heap id) k with
      |none=>simp[ey]at ah
      |some p=>
       cases p with
       |box t2 yZ=>simp[ey,ko]at ah
       |bK=>simp[ey,ko]at ah
       |row z2 t2 gu zce=>exact ak _ _ _ _ (gx k _ ey).1
    |fn f p q c d aa ae _ _ gZ ha=>
     refine .fn f _ _ c d (by rw[nn];exact aa) (by rw[nn];exact ae) (fun j x af=>?_) (fun j x af=>?_)
     ·obtain⟨y,ax,rfl⟩:=ox _ af
      exact gZ j y ax
     ·obtain⟨y,ax,rfl⟩:=ox _ af
      exact ha j y ax
    |ref k c ar ak=>
     refine .ref k c ar fun bM ah=>?_
     rw[pU]at ah
     cases aj:aD (gm s.heap id) k with
     |none=>simp[aj]at ah
     |some p=>
      cases p with
      |box=>simp[aj,ko]at ah
      |row=>simp[aj,ko]at ah
      |bK lb=>exact ak lb (gx k _ aj).1
    |top c=>exact .top c
   have back: ∀k o,aD (l3 [(id,.row true t n es)] (gm s.heap id)) k=some o→∃p,aD s.heap k=some p∧k≠id∧p.live=o.live∧o=ko [(id,.row true t n es)] p:=by
    intro k o ah;rw[pU]at ah
    cases aj:aD (gm s.heap id) k with
    |none=>simp[aj]at ah
    |some p=>
     obtain⟨aa,ae⟩:=gx k p aj;refine⟨p,aa,ae,?_,?_⟩
     ·simp[aj]at ah
      subst ah
      cases p<;>rfl
     ·simp[aj]at ah
      exact ah.symm
   refine⟨β,fun b=>ro b∨b5 (β id)=some b,h.defers,by simpa[nn]using h.size,fun i x hx=>?_,⟨fun k o ah=>?_,fun k bk o cy b ah dU ar r8 ad fT=>?_,fun b ad=>?_,fun b ad=>?_⟩,
    h.h3.keep (fun _ _=>rfl) fun _ h=>.inl h,?_,h.base⟩
   ·obtain⟨y,ax,rfl⟩:=ox _ hx
    exact view _ _ (h.slot i y ax)
   ·obtain⟨p,aa,ae,av,rfl⟩:=back k o ah
    have an:=h.heap.c6 k p aa
    cases an with
    |box bz cs' b arr aA bh ct e1=>
     refine .box bz _ b arr aA bh (by rw[nn];exact ct) fun j x af=>?_
     obtain⟨y,ax,rfl⟩:=ox _ af;exact view _ _ (e1 j y ax)
    |row bz cH dN IF aA bh ct=>exact .row bz cH dN IF aA bh fun j x af=>(ct j x af).keep (fun _ _=>rfl) fun _ h=>.inl h
    |gb bz cH dN aA=>exact .gb bz cH dN (aA.keep (fun _ _=>rfl) fun _ h=>.inl h)
    |bK bM b o aA bh ct=>exact .bK bM b o aA bh (bM.mono _ _ _ _ (fun x c h=>h.keep (fun _ _=>rfl) fun _ h=>.inl h) ct)
   ·obtain⟨p,aa,_,av,_⟩:=back k o ah
    obtain⟨fW,r9,_,zcf,_⟩:=back bk cy dU;exact h.heap.inj k bk p fW b aa r9 (av.trans ar) (zcf.trans r8) ad fT
   ·rintro⟨k,o,ah,ar,bf⟩
    obtain⟨p,aa,ae,av,_⟩:=back k o ah
    rcases ad with ad|ad
    ·exact h.heap.fe b ad ⟨k,p,aa,av.trans ar,bf⟩
    ·exact ae (h.heap.inj k id p _ b aa bb (av.trans ar) rfl bf ad)
   ·rcases ad with ad|ad
    ·exact h.heap.lt b ad
    ·exact(cZ.hB ad).1
   ·have bz:=h.trans
    refine⟨bz.os,bz.tape,bz.output,bz.size,bz.frame,fun b ad=>?_,fun b ad=>.inl (bz.jR b ad),?_,fun k aj o ah=>?_,fun k o ah=>?_,bz.le⟩
    ·rcases ad with ad|ad
     ·exact bz.jb b ad
     ·rcases bz.gY b ⟨id,_,bb,rfl,ad⟩with hc|hc
      ·exact .inr (.inl hc)
      ·exact .inr (.inr hc)
    ·rintro b ⟨k,o,ah,ar,bf⟩
     obtain⟨p,aa,_,av,_⟩:=back k o ah;exact bz.gY b ⟨k,p,aa,av.trans ar,bf⟩
    ·obtain⟨p,aa,_,_,_⟩:=back k o ah
     exact bz.dJ k aj p aa
    ·obtain⟨p,aa,_,_,_⟩:=back k o ah
     exact bz.new k p aa
 ·exact cl.refl s
end Go.aK
namespace Go.aK
open Go
def pV(s:ByteArray)(pos:Nat):vK:=⟨fun _ v o=>(∃b,v= .pointer (some ⟨b,0,none⟩))∧o= .stringIter s pos,fun _ _ _ _ _ h=>h,none,fun _ h=>by cases h⟩
section
variable {P:Program} {G:a8} {o:Oper} {s:aO}
theorem run_newObj(h4:Obj)(w:World):(newObj h4).run P w= .ok w.heap.size (w.alloc h4):=rfl
theorem Qu{w:World}{r:Nat}{b:ByteArray}{p:Nat}(h:w.heap[r]? =some (.stringIter b p)):(getObj r).run P w= .ok (.stringIter b p) w:=by simp[getObj,Sem.run,h]
theorem zcg{w:World}{r:Nat}{b:ByteArray}{p:Nat}(h4:Obj)(h:w.heap[r]? =some (.stringIter b p)):(setObj r h4).run P w= .ok () {w with heap:=w.heap.setIfInBounds r h4}:=by simp[setObj,Sem.run,h]
theorem zch(t:TypeId)(x:Operand)(an:o.op= .range t x)(aH:P.underlying t=some .string){b:ByteArray}(hx:aI G s x= .au (.v (.string b)))(ad:s.base≤s.next):
 dO P G o s ({s with heap:=(s.next,.bK (pV b 0))::s.heap,next:=s.next+1}.put o.dst (.ref s.next)):=by
 intro E a w ⟨β,ro,ag⟩ K Q hK
 unfold Oper.wp
 simp only[execOp,an,ag.ec hx,Sem.run_bind,Instr.range,run_underlying aH,Result.andThen_ok,Sem.run_pure]
 have jc:aD s.heap s.next=none:=by
  cases ah:aD s.heap s.next with
  |none=>rfl
  |some p=>have:=ag.trans.new _ _ ah;omega
 have fb:=ag.new (w':=w.alloc (.stringIter b 0)) s.next jc ad (Nat.le_refl _) (.bK (pV b 0)) (.pointer (some ⟨w.heap.size,0,none⟩)) rfl rfl rfl (by simp) (fun b ad=>Go.RowKit.Below.heap_alloc w _ b ad) (fun b ad=>by simp[b5]at ad;omega) rfl
  (.bK _ w.heap.size (.stringIter b 0) (by rw[dP];rfl) (heap_alloc_new w _) ⟨⟨_,dP _ _ _⟩,rfl⟩)
 have aj:=hK _ _ ⟨_,ro,fb.put o.dst (.ref s.next) (.pointer (some ⟨w.heap.size,0,none⟩)) (.ref _ _ (Nat.lt_succ_self _) fun bM _=>(dP _ _ _).symm)⟩
 rw[run_newObj]
 exact aj
theorem zci(x:Operand)(an:o.op= .next x true){id:Nat}(hx:aI G s x= .ref id){b:ByteArray}{pos:Nat}(bb:aD s.heap id=some (.bK (pV b pos)))(ak:b.size≤pos):
 cL P G o s (.tuple [.au (.v (.bool false))]):=
 fun E a w β ro ag=>by
  have dj:=ag.heap.c6 id _ bb
  cases dj with
  |bK _ Cs h4 aa ae av=>
   obtain⟨⟨b',fT⟩,rfl⟩:=av
   have dQ:=ag.eval x
   rw[hx]at dQ;generalize he:a.eval x=c at dQ
   cases dQ with
   |ref _ _ _ hc=>
    have iG:=hc _ bb
    rw[fT]at aa iG;simp only[b5,Option.some.injEq]at aa;subst aa;refine⟨.tuple #[.bool false],?_,.tuple _ _ rfl fun j y af=>?_⟩
    ·have hn: ¬pos<b.size:=by omega
     rw[iG]at he;simp[execOp,an,he,Instr.next,Qu ae,hn]
    ·cases j with
     |zero=>simp at af;subst af;exact .fC rfl
     |succ j=>simp at af
theorem zcj(x:Operand)(an:o.op= .next x true){id:Nat}(hx:aI G s x= .ref id){b:ByteArray}{pos:Nat}(bb:aD s.heap id=some (.bK (pV b pos)))(ak:pos<b.size){c k:Nat}(hd:Utf8.decode b pos=(c,k)):
 dO P G o s ({s with heap:=eL s.heap id (.bK (pV b (pos+k)))}.put o.dst (.tuple [.au (.v (.bool true)),.au (.v (.int .i64 (pos:Int))),.au (.v (.int .i32 (c:Int)))])):=by
 intro E a w ⟨β,ro,ag⟩ K Q hK
 have dj:=ag.heap.c6 id _ bb
 cases dj with
 |bK _ Cs h4 aa ae av=>
  obtain⟨⟨b',fT⟩,rfl⟩:=av
  have dQ:=ag.eval x
  rw[hx]at dQ;generalize he:a.eval x=oD at dQ
  cases dQ with
  |ref _ _ _ hc=>
   have iG:=hc _ bb
   have oE:=aa
   rw[fT]at aa iG;simp only[b5,Option.some.injEq]at aa;subst aa;rw[iG]at he;unfold Oper.wp
   have cn:(execOp a.eval o).run P w= .ok (.value (.tuple #[.bool true,goInt pos,.int .i32 c])) {w with heap:=w.heap.setIfInBounds b' (.stringIter b (pos+k))}:=by
    simp[execOp,an,he,Instr.next,Qu ae,ak,hd,zcg _ ae]
   rw[cn]
   have bI:=(Array.getElem?_eq_some_iff.1 ae).1
   have hw:=ag.write (w':={w with heap:=w.heap.setIfInBounds b' (.stringIter b (pos+k))}) id _ (.bK (pV b (pos+k))) bb rfl rfl (.inr (.inr ⟨_,_,rfl,rfl⟩)) rfl rfl rfl (by simp) (fun j af b7=>by
    have:b'≠j:=fun e=>b7 (by rw[fT,←e];rfl)
    simp[Array.getElem?_setIfInBounds_ne this]) (.bK _ b' (.stringIter b (pos+k)) oE (by simp[bI]) ⟨⟨b',fT⟩,rfl⟩)
   refine hK _ _ ⟨β,ro,hw.put o.dst _ _ (.tuple _ _ rfl fun j y af=>?_)⟩
   match j,af with
   |0,af=>simp at af;subst af;exact .fC rfl
   |1,af=>simp at af;subst af;exact .fC rfl
   |2,af=>simp at af;subst af;exact .fC rfl
   |j+3,af=>simp at af
end
end Go.aK
namespace Go.aK
open Go
section
variable {P:Program} {G:a8} {o:Oper} {s:aO} {E:Entry} {a:Act} {w w':World} {β:Nat→Value} {ro ro':Nat→Prop}
theorem c3.grow(h:c3 E G s a w β ro)(oo:w'.os=w.os)(oq:w'.tape=w.tape)(kk:w'.output=w.output)(bQ:w.heap.size≤w'.heap.size)(hw: ∀b,b<w.heap.size→w'.heap[b]? =w.heap[b]?)
 (cc: ∀b,ro b→ro' b)(fb: ∀b,ro' b→ro b∨(w.heap.size≤b∧b<w'.heap.size)):c3 E G s a w' β ro':=by
 have aj: ∀b,ro b→w'.heap[b]? =w.heap[b]? :=fun b ad=>hw b (h.heap.lt b ad)
 refine⟨h.defers,h.size,fun i x hx=>(h.slot i x hx).keep aj cc (Nat.le_refl _) (fun _ t cs ah=>⟨rfl,t,cs,ah⟩) (fun _ z t _ es ah=>⟨rfl,z,t,es,ah⟩) (fun _ bM ah=>⟨rfl,bM,ah⟩),
  ⟨fun id h4 ah=>(h.heap.c6 id h4 ah).keep aj cc (Nat.le_refl _) bQ rfl (fun ar b ad=>hw b ((h.heap.c6 id h4 ah).hB ar ad)) (fun _ t cs ah=>⟨rfl,t,cs,ah⟩) (fun _ z t _ es ah=>⟨rfl,z,t,es,ah⟩) (fun _ bM ah=>⟨rfl,bM,ah⟩),h.heap.inj,fun b ad an=>?_,fun b ad=>?_⟩,
  h.h3.keep aj cc,?_,h.base⟩
 ·rcases fb b ad with aa|⟨aa,_⟩
  ·exact h.heap.fe b aa an
  ·obtain⟨id,h4,ah,ar,fT⟩:=an
   have:=(h.heap.c6 id h4 ah).hB ar fT
   omega
 ·rcases fb b ad with aa|⟨_,aa⟩
  ·exact Nat.lt_of_lt_of_le (h.heap.lt b aa) bQ
  ·exact aa
 ·have t:=h.trans
  refine⟨oo.trans t.os,oq.trans t.tape,kk.trans t.output,Nat.le_trans t.size bQ,fun b ad hn=>(hw b (Nat.lt_of_lt_of_le ad t.size)).trans (t.frame b ad hn),fun b ad=>?_,fun b ad=>cc b (t.jR b ad),t.gY,t.dJ,t.new,t.le⟩
  rcases fb b ad with aa|⟨aa,_⟩
  ·exact t.jb b aa
  ·exact .inr (.inr (Nat.le_trans t.size aa))
theorem dO.I6{t:TypeId}{n:Nat}{es:List (List a1)}(bd:vV P G o s t n es):dO P G o s (s.put o.dst (.au (.aM n es))):=by
 obtain⟨hn,h⟩:=bd
 intro E a w ⟨β,ro,ag⟩ K Q hK
 obtain⟨v,xs,w',cn,hs,cQ,gF,eV⟩:=h E a w β ro ag
 unfold Oper.wp
 rw[cn]
 have hw: ∀b,b<w.heap.size→w'.heap[b]? =w.heap[b]? :=fun b ad=>cQ.block b ad (by simp)
 have cZ:h2 w' t n v es.length xs:=.Cl hs
 have ah:=ag.grow (ro':=fun b=>ro b∨b5 v=some b) cQ.os cQ.tape cQ.output cQ.size hw (fun _ h=>.inl h) (fun b ad=>by
  rcases ad with h|h
  ·exact .inl h
  ·exact .inr ⟨gF b h,(cZ.hB h).1⟩)
 exact hK _ _ ⟨β,_,ah.put o.dst _ _ (.au _ _ (cZ.I5 hn (fun j x af=>(eV j x af).keep (fun b ad=>hw b (ag.heap.lt b ad)) fun _ h=>.inl h) fun b ad=>.inr ad))⟩
mutual
theorem Qv(d:Nat): ∀(x:aC),fD x=true→pQ d x=x∧gy 0 x=true
 | .au _,_=>⟨rfl,rfl⟩
 | .agg cs,h=>by
  have:=y0 d cs (by simpa[fD]using h)
  exact⟨by simp[pQ,this.1],by simpa[gy]using this.2⟩
 | .tuple cs,h=>by
  have:=y0 d cs (by simpa[fD]using h)
  exact⟨by simp[pQ,this.1],by simpa[gy]using this.2⟩
 | .fn f p q,h=>by
  simp only[fD,Bool.and_eq_true]at h
  have aa:=y0 d p h.1
  have ae:=y0 d q h.2
  exact⟨by simp[pQ,aa.1,ae.1],by simp[gy,aa.2,ae.2]⟩
 | .top,_=>⟨rfl,rfl⟩
 | .ptr _ _,h=>by simp[fD]at h
 | .dx _ _,h=>by simp[fD]at h
 | .cV _ _ _,h=>by simp[fD]at h
 | .aM _,h=>by simp[fD]at h
 | .ref _,h=>by simp[fD]at h
theorem y0(d:Nat): ∀(l:List aC),e3 l=true→lf d l=l∧kP 0 l=true
 |[],_=>⟨rfl,rfl⟩
 |x::r,h=>by
  simp only[e3,Bool.and_eq_true]at h
  have aa:=Qv d x h.1
  have ae:=y0 d r h.2
  exact⟨by simp[lf,aa.1,ae.1],by simp[kP,aa.2,ae.2]⟩
end
theorem dO.zck{x:Operand}{xs:Array Operand}{ts:Array TypeId}(an:o.op= .call {callee:=.value x,args:=xs,argTypes:=ts}){f:FuncId}(hx:aI G s x= .fn (.func f) [] [])
 (gz:mE P f=true){args:List aC}(hV:xs.toList.map (fun y=>hE s.heap (aI G s y))=args)(oy:e3 args=true){r:aC}(hc:dE P G f args [] 0 fun dF bU=>dF=r∧bU=[])(ag:fD r=true)(ad:s.base≤s.next):
 dO P G o s (s.put o.dst r):=by
 obtain⟨I7,qY⟩:=Qv s.next r ag
 have:=dO.call (K:=0) an hx gz hV oy hc (fun _ _ h=>h) qY rfl ad
 rw[I7]at this
 exact this
def jj(ks:List Nat)(l:List aC):List aC:=l.mapIdx fun i x=>if ks.contains i then x else .top
theorem y2(ks:List Nat)(l:List aC)(i:Nat):(jj ks l)[i]? =(l[i]?).map fun x=>if ks.contains i then x else .top:=by
 simp[jj]
theorem c3.mask(h:c3 E G s a w β ro)(ks:List Nat):c3 E G {s with cO:=jj ks s.cO} a w β ro:=by
 refine⟨h.defers,by simp[jj,h.size],fun i x hx=>?_,h.heap,h.h3,h.trans,h.base⟩
 simp only[y2]at hx
 cases hi:s.cO[i]? with
 |none=>simp[hi]at hx
 |some y=>
  simp only[hi,Option.map_some,Option.some.injEq]at hx
  split at hx
  ·subst hx;exact h.slot i y hi
  ·subst hx;exact .top _
def DStep(P:Program)(G:a8)(ops:Array Oper)(dq:aO)(T:List aC)(o:Oper)(v:aC):Prop:=
 ∀s:aO,s.heap=dq.heap→s.next=dq.next→s.base=dq.base→s.cO.length=T.length→(∀t∈o.looksAt ops,s.cO[t]? =T[t]?)→
  (dL ops s o=some true∧dO P G o s (s.put o.dst v))∨(dL ops s o=some false∧v= .tuple [])
theorem I8{ks:List Nat}{l hU:List aC}(hlen:l.length=hU.length)(h: ∀t∈ks,l[t]? =hU[t]?):jj ks l=jj ks hU:=by
 apply List.ext_getElem?
 intro i
 rw[y2,y2]
 by_cases hi:i∈ks
 ·rw[h i hi]
 ·have hc:ks.contains i=false:=by simpa using hi
  simp only[hc]
  by_cases ar:i<l.length
  ·rw[List.getElem?_eq_getElem ar,List.getElem?_eq_getElem (by omega)];rfl
  ·rw[List.getElem?_eq_none (by omega),List.getElem?_eq_none (by omega)]
theorem I9{ops:Array Oper}{ks:List Nat}(aj: ∀j b,o.guard=some (j,b)→∀d,lY ops j=some d→d∈ks):dL ops {s with cO:=jj ks s.cO} o=dL ops s o:=by
 unfold dL
 cases ah:o.guard with
 |none=>rfl
 |some Ja=>
  obtain⟨j,b⟩:=Ja;simp only
  cases hd:lY ops j with
  |none=>rfl
  |some d=>
   have hm:ks.contains d=true:=by simpa using aj j b ah d hd
   simp only[y2]
   cases ai:s.cO[d]? with
   |none=>simp
   |some x=>simp only[Option.map_some,hm,if_true]
theorem Jb{ops:Array Oper}(j:Nat)(b:Bool)(ah:o.guard=some (j,b))(d:Nat)(hd:lY ops j=some d):d∈o.looksAt ops:=by
 unfold lY at hd
 simp[Oper.looksAt,ah,hd]
theorem DStep.val{ops:Array Oper}{dq:aO}{T:List aC}{v:aC}(ah:dL ops ⟨jj (o.looksAt ops) T,dq.heap,dq.next,dq.base⟩ o=some true)(aw:qX P G o ⟨jj (o.looksAt ops) T,dq.heap,dq.next,dq.base⟩=some v):DStep P G ops dq T o v:=by
 intro s aa ae av hlen bS
 have hm:=I8 hlen bS
 have dB:({s with cO:=jj (o.looksAt ops) s.cO}:aO)=⟨jj (o.looksAt ops) T,dq.heap,dq.next,dq.base⟩:=by rw[hm,←aa,←ae,←av]
 refine .inl ⟨by rw[←I9 (ks:=o.looksAt ops) Jb,dB];exact ah,cL.step fun E a w β ro ag=>?_⟩
 have dV:=ag.mask (o.looksAt ops)
 rw[dB]at dV
 have:=I4 aw E a w β ro dV
 simpa only[aa,ae]using this
theorem zcl{ks:List Nat}{y:Operand}(ax: ∀t,y= .tmp t→t∈ks):aI G {s with cO:=jj ks s.cO} y=aI G s y:=by
 cases y with
 |tmp t=>
  have hm:ks.contains t=true:=by simpa using ax t rfl
  simp only[aI,List.getD,y2]
  cases ai:s.cO[t]? with
  |none=>rfl
  |some x=>simp only[Option.map_some,hm,if_true]
 |_=>rfl
theorem DStep.of{ops:Array Oper}{dq:aO}{T:List aC}{v:aC}(ah:dL ops ⟨jj (o.looksAt ops) T,dq.heap,dq.next,dq.base⟩ o=some true)
 (h: ∀s:aO,s.heap=dq.heap→s.next=dq.next→s.base=dq.base→(∀y:Operand,(∀t,y= .tmp t→t∈o.looksAt ops)→aI G s y=aI G ⟨jj (o.looksAt ops) T,dq.heap,dq.next,dq.base⟩ y)→dO P G o s (s.put o.dst v)):DStep P G ops dq T o v:=by
 intro s aa ae av hlen bS
 have hm:=I8 hlen bS
 have dB:({s with cO:=jj (o.looksAt ops) s.cO}:aO)=⟨jj (o.looksAt ops) T,dq.heap,dq.next,dq.base⟩:=by rw[hm,←aa,←ae,←av]
 refine .inl ⟨by rw[←I9 (ks:=o.looksAt ops) Jb,dB];exact ah,h s aa ae av fun y ax=>?_⟩
 rw[←dB]
 exact(zcl ax).symm
end
end Go.aK
namespace Go.aK
open Go
def vZ(l:List Oper)(sa:List aC)(pW:List aC)(E:Nat→Prop)(T:List aC):Prop:=
 T.length=pW.length∧∀t,t<pW.length→((∀j o,l[j]? =some o→E j→o.dst≠some t)→T[t]? =pW[t]?)∧(∀j o,l[j]? =some o→E j→o.dst=some t→T[t]? =sa[j]?)
theorem vZ.same{l:List Oper}{sa pW T Qw:List aC}{E v7:Nat→Prop}(h:vZ l sa pW E T)(h':vZ l sa pW v7 Qw)(t:Nat)(he: ∀j o,l[j]? =some o→o.dst=some t→(E j↔v7 j)):T[t]? =Qw[t]? :=by
 by_cases aH:t<pW.length
 ·by_cases hx: ∃j o,l[j]? =some o∧E j∧o.dst=some t
  ·obtain⟨j,o,aa,ae,av⟩:=hx
   rw[(h.2 t aH).2 j o aa ae av,(h'.2 t aH).2 j o aa ((he j o aa av).1 ae) av]
  ·have aA: ∀j o,l[j]? =some o→E j→o.dst≠some t:=fun j o aa ae av=>hx ⟨j,o,aa,ae,av⟩
   have bh: ∀j o,l[j]? =some o→v7 j→o.dst≠some t:=fun j o aa ae av=>hx ⟨j,o,aa,(he j o aa av).2 ae,av⟩
   rw[(h.2 t aH).1 aA,(h'.2 t aH).1 bh]
 ·rw[List.getElem?_eq_none (by have:=h.1;omega),List.getElem?_eq_none (by have:=h'.1;omega)]
def v8(T:List aC)(dst:Option Nat)(v:aC):List aC:=
 match dst with
 |some d=>T.set d v
 |none=>T
theorem zcm(T:List aC)(dst:Option Nat)(v:aC):(v8 T dst v).length=T.length:=by
 cases dst<;>simp[v8]
theorem vZ.put{l:List Oper}{sa pW T:List aC}{E:Nat→Prop}(h:vZ l sa pW E T){i:Nat}{o:Oper}{v:aC}(hi:l[i]? =some o)(aw:sa[i]? =some v)
 (hd: ∀j p,l[j]? =some p→E j→p.dst≠none→p.dst≠o.dst){v7:Nat→Prop}(iR: ∀j,v7 j↔E j∨j=i):vZ l sa pW v7 (v8 T o.dst v):=by
 refine⟨by rw[zcm];exact h.1,fun t aH=>⟨fun hn=>?_,fun j p af Jc ak=>?_⟩⟩
 ·have aa:=(h.2 t aH).1 fun j p af Jc=>hn j p af ((iR j).2 (.inl Jc))
  cases pX:o.dst with
  |none=>exact aa
  |some d=>
   have b7:d≠t:=fun e=>hn i o hi ((iR i).2 (.inr rfl)) (by rw[pX,e])
   simp only[v8];rw[List.getElem?_set_ne b7]
   exact aa
 ·rcases (iR j).1 Jc with aa|aa
  ·have ae:=(h.2 t aH).2 j p af aa ak
   cases pX:o.dst with
   |none=>exact ae
   |some d=>
    have b7:d≠t:=fun e=>hd j p af aa (by rw[ak];simp) (by rw[ak,pX,e])
    simp only[v8];rw[List.getElem?_set_ne b7]
    exact ae
  ·subst aa
   rw[hi]at af;simp only[Option.some.injEq]at af;subst af;rw[ak];simp only[v8];rw[List.getElem?_set_self (by have:=h.1;omega),aw]
section
variable {P:Program} {G:a8} {dq:aO}
abbrev wa(ops:Array Oper)(dq:aO)(T:List aC)(o:Oper):aO:=⟨jj (o.looksAt ops) T,dq.heap,dq.next,dq.base⟩
theorem DStep.row{ops:Array Oper}{T:List aC}{o:Oper}{t n:Nat}{es:List (List a1)}(ah:dL ops (wa ops dq T o) o=some true)(h:vV P G o (wa ops dq T o) t n es):DStep P G ops dq T o (.au (.aM n es)):=by
 intro s aa ae av hlen bS
 have hm:=I8 hlen bS
 have dB:({s with cO:=jj (o.looksAt ops) s.cO}:aO)=wa ops dq T o:=by rw[hm,aa,ae,av]
 refine .inl ⟨by rw[←I9 (ks:=o.looksAt ops) Jb,dB];exact ah,dO.I6 (t:=t) ⟨h.1,fun E a w β ro ag=>?_⟩⟩
 have dV:=ag.mask (o.looksAt ops)
 rw[dB]at dV
 exact h.2 E a w β ro dV
theorem DStep.call{ops:Array Oper}{T:List aC}{o:Oper}{x:Operand}{xs:Array Operand}{ts:Array TypeId}(an:o.op= .call {callee:=.value x,args:=xs,argTypes:=ts})(ah:dL ops (wa ops dq T o) o=some true){f:FuncId}
 (hx:aI G (wa ops dq T o) x= .fn (.func f) [] [])(gz:mE P f=true){args:List aC}(hV:xs.toList.map (fun y=>hE dq.heap (aI G (wa ops dq T o) y))=args)(oy:e3 args=true){r:aC}
 (hc:dE P G f args [] 0 fun dF bU=>dF=r∧bU=[])(ag:fD r=true)(ad:dq.base≤dq.next):DStep P G ops dq T o r:=by
 refine DStep.of ah fun s aa ae av ax=>?_
 have Qx: ∀y:Operand,(y=x∨y∈xs)→∀t,y= .tmp t→t∈o.looksAt ops:=by
  intro y ax t aH;subst aH;refine List.mem_append_left _ (List.mem_filterMap.2 ⟨.tmp t,?_,rfl⟩)
  rw[an];simp only[Op.operands,Call.operands]
  rcases ax with h|h
  ·rw[←h];simp
  ·simp[h]
 refine dO.zck an (by rw[ax x (Qx x (.inl rfl))];exact hx) gz (args:=args) ?_ oy hc ag (by rw[ae,av];exact ad)
 rw[←hV]
 apply List.map_congr_left
 intro y hm
 rw[aa,ax y (Qx y (.inr (by simpa using hm)))]
theorem DStep.cast{ops:Array Oper}{T:List aC}{o:Oper}{v bg:aC}(h:DStep P G ops dq T o v)(e:v=bg):DStep P G ops dq T o bg:=e ▸ h
end
end Go.aK
namespace Go.aK
open Go
section
variable {P:Program} {G:a8} {o:Oper} {s:aO}
def tM(P:Program)(t:TypeId):Option (TypeId × Nat × List Value):=
 match P.underlying t with
 |some (.slice e)=>match P.info? e,zeroCells P e with
  |some i,some zs=>if zs.all Value.oneCell'∧zs.length=i.size∧0<i.size then some (e,i.size,zs)else none
  |_,_=>none
 |_=>none
def nu(P:Program)(G:a8)(s:aO)(t:TypeId)(len:Nat)(parts:List (Nat × Operand)):Option (TypeId × Nat × List (List a1)):=
 match tM P t with
 |some (e,n,zs)=>
  if len=0 then(if parts.isEmpty then some (e,n,[])else none)
  else if len*n≤16777216∧(parts.map fun p=>(p.1,aI G s p.2)).all (fun p=>(cP p.2).all (eB s.heap))then
   match jX (fun i=>some (i*n,n)) ((List.replicate len (zs.map fun z=>aC.au (.v z))).flatten) (parts.map fun p=>(p.1,aI G s p.2))with
   |some ds=>match iE ds with
    |some rs=>some (e,n,chunk n len rs)
    |none=>none
   |none=>none
  else none
 |none=>none
theorem Ct{t:TypeId}{len:Nat}{parts:Array (Nat × Operand)}(an:o.op= .buildSlice t len parts){e n:Nat}{es:List (List a1)}(h:nu P G s t len parts.toList=some (e,n,es)):vV P G o s e n es:=by
 unfold nu at h
 split at h
 ·rename_i ay cH zs aH
  unfold tM at aH
  split at aH
  ·rename_i bh hu
   split at aH
   ·rename_i i zcn hi aV
    split at aH
    ·rename_i hc
     simp only[Option.some.injEq,Prod.mk.injEq]at aH;obtain⟨rfl,rfl,rfl⟩:=aH
     split at h
     ·rename_i hlen
      subst hlen
      split at h
      ·rename_i ak
       simp only[Option.some.injEq,Prod.mk.injEq]at h;obtain⟨rfl,rfl,rfl⟩:=h;refine⟨by simp,fun E a w β ro ag=>⟨.slice (some ⟨w.heap.size,0,none⟩) 0 0,[],w.alloc (.cells #[] bh),?_,?_,World.grownBy_alloc w _ none,fun b ad=>by simp[b5]at ad,by simp⟩⟩
       ·have gG:parts= #[]:=by
         apply Array.ext';simpa using ak
        subst gG;simp[execOp,an,Instr.buildSlice,run_underlying hu,sizeOf,typeInfo,hi,Instr.fill,newRow,Sem.run_bind,Array.range_zero']
       ·exact World.ownsRow_lit w #[] 0 (Nat.zero_le _) (Nat.zero_le _) (by simp)
      ·cases h
     ·rename_i hlen
      split at h
      ·rename_i IY
       split at h
       ·rename_i ds hf
        split at h
        ·rename_i rs gg
         simp only[Option.some.injEq,Prod.mk.injEq]at h;obtain⟨rfl,rfl,rfl⟩:=h
         have zco:0<len*i.size:=Nat.mul_pos (Nat.pos_of_ne_zero hlen) hc.2.2
         exact zb3 t len parts an hu (by simp[hi]) aV hc.1 hc.2.1 ⟨zco,IY.1⟩ rfl IY.2 hf gg
        ·cases h
       ·cases h
      ·cases h
    ·cases aH
   ·cases aH
  ·cases aH
 ·cases h
end
theorem zcp{k:Nat}(h:k+1≤9223372036854775807):IntKind.i64.wrap ((k:Int)+1)=((k+1:Nat):Int):=by
 rw[rN _ (by omega) (by omega)]
 rfl
end Go.aK
namespace Go.aK
open Go
def wb(m:Option Nat):aC→aC
 | .au (.v (.slice none 0 0))=>match m with
  |some n=>.au (.aM n [])
  |none=>.au (.v (.slice none 0 0))
 |x=>x
def qZ:List (Option Nat)→List aC→List aC
 |m::ms,c::cs=>wb m c::qZ ms cs
 |_,cs=>cs
def Jd(m:List (Option Nat)):aC→aC
 | .agg cs=>.agg (qZ m cs)
 |x=>wb (m.headD none) x
def aO.y3(s:aO)(k:Nat)(m:List (Option Nat)):aO:=
 {s with cO:=match s.cO[k]? with|some x=>s.cO.set k (Jd m x)|none=>s.cO}
theorem Qy{w:World}{ro:Nat→Prop}{σ:Heap}{β:Nat→Value}{N:Nat}{m:Option Nat}{x:aC}{c:Value}(h:bp w ro σ β N x c):bp w ro σ β N (wb m x) c:=by
 unfold wb
 split
 ·cases m with
  |none=>exact h
  |some n=>
   refine .au _ _ ?_
   cases h with
   |au _ _ h=>
    cases h;exact .aM n [] none 0 (fun _=>undef) (Nat.le_refl _) (Nat.zero_le _) (by simp) (by simp) (by simp)
 ·exact h
theorem zcq{m:List (Option Nat)}{cs:List aC}{j:Nat}{x:aC}(h:(qZ m cs)[j]? =some x): ∃y p,cs[j]? =some y∧x=wb p y:=by
 induction m generalizing cs j with
 |nil=>exact⟨x,none,by simpa[qZ]using h,by unfold wb;split<;>rfl⟩
 |cons a m aZ=>
  cases cs with
  |nil=>simp[qZ]at h
  |cons c cs=>
   cases j with
   |zero=>simp[qZ]at h;exact⟨c,a,rfl,h.symm⟩
   |succ j=>simp only[qZ,List.getElem?_cons_succ]at h⊢;exact aZ h
theorem zcr(m:List (Option Nat))(cs:List aC):(qZ m cs).length=cs.length:=by
 induction m generalizing cs with
 |nil=>rfl
 |cons a m aZ=>cases cs<;>simp[qZ,aZ]
theorem zcs{w:World}{ro:Nat→Prop}{σ:Heap}{β:Nat→Value}{N:Nat}{m:List (Option Nat)}{x:aC}{c:Value}(h:bp w ro σ β N x c):bp w ro σ β N (Jd m x) c:=by
 unfold Jd
 split
 ·cases h with
  |agg cs c aa ae=>
   refine .agg _ _ (by rw[aa,zcr]) fun j y af=>?_
   obtain⟨z,p,aV,rfl⟩:=zcq af;exact Qy (ae j z aV)
 ·exact Qy h
theorem cl.y3{s bn:aO}(k:Nat)(m:List (Option Nat))(h:s.y3 k m=bn):cl s bn:=by
 subst h
 intro E G a w ⟨β,ro,h⟩
 unfold aO.y3
 cases aj:s.cO[k]? with
 |none=>exact⟨β,ro,h⟩
 |some x=>
  refine⟨β,ro,h.defers,by simp[h.size],fun i y ax=>?_,h.heap,h.h3,h.trans,h.base⟩
  rw[List.getElem?_set]at ax
  split at ax
  ·rename_i e
   subst e
   split at ax
   ·simp only[Option.some.injEq]at ax
    subst ax;exact zcs (h.slot k x aj)
   ·cases ax
  ·exact h.slot i y ax
end Go.aK
namespace Go.aK
open Go
theorem cl.zct{s bn:aO}(k e n:Nat)(aj:s.cO[k]? =some (.au (.v (.slice none 0 0))))(ad:s.base≤s.next)
 (h:({s with cO:=s.cO.set k (.aM s.next),heap:=(s.next,.row false e n [])::s.heap,next:=s.next+1}:aO)=bn):cl s bn:=by
 subst h
 intro E G a w ⟨β,ro,ag⟩
 have jc:aD s.heap s.next=none:=by
  cases ah:aD s.heap s.next with
  |none=>rfl
  |some p=>have:=ag.trans.new _ _ ah;omega
 have pY:=bp.val (ag.slot k _ aj)
 have fb:=ag.new (w':=w) s.next jc ad (Nat.le_refl _) (.row false e n []) (.slice none 0 0) rfl rfl rfl (Nat.le_refl _) (fun _ _=>rfl) (fun c hc=>by simp[b5]at hc) rfl
  (.row e n [] [] (by rw[dP];exact⟨by simp,.inl ⟨⟨none,rfl,fun _ h=>(by cases h)⟩,rfl⟩⟩) (by simp) (by simp))
 refine⟨_,ro,fb.defers,by simpa using fb.size,fun i y ax=>?_,fb.heap,fb.h3,fb.trans,fb.base⟩
 rw[List.getElem?_set]at ax
 split at ax
 ·rename_i aA
  subst aA
  split at ax
  ·simp only[Option.some.injEq]at ax
   subst ax;refine .aM _ _ (Nat.lt_succ_self _) fun z bz cH dN _=>?_
   rw[pY];exact(dP _ _ _).symm
  ·cases ax
 ·exact fb.slot i y ax
end Go.aK
namespace Go.aK
open Go
def tN(σ:Heap):aC→Option a1
 | .au x=>some x
 | .aM id=>match aD σ id with
  |some (.row _ _ n es)=>some (.aM n es)
  |_=>none
 | .ref id=>match aD σ id with
  |some (.bK bM)=>bM.view
  |_=>none
 |_=>none
def y4(σ:Heap):List aC→Option (List a1)
 |[]=>some []
 |x::r=>match tN σ x,y4 σ r with
  |some y,some l=>some (y::l)
  |_,_=>none
mutual
def jE(σ:Heap):aC→aC
 | .aM id=>match aD σ id with
  |some (.row _ _ n es)=>.au (.aM n es)
  |_=>.aM id
 | .ptr id off=>match aD σ id with
  |some (.box _ cs)=>(match y4 σ (cs.drop off)with
   |some l=>.au (.ptr l)
   |none=>.ptr id off)
  |_=>.ptr id off
 | .agg cs=>.agg (hY σ cs)
 | .tuple cs=>.tuple (hY σ cs)
 | .fn f p q=>.fn f (hY σ p) (hY σ q)
 | .au x=>.au x
 | .cV id i off=>.cV id i off
 | .dx id n=>.dx id n
 | .ref id=>match aD σ id with
  |some (.bK bM)=>(match bM.view with
   |some x=>.au x
   |none=>.ref id)
  |_=>.ref id
 | .top=>.top
def hY(σ:Heap):List aC→List aC
 |[]=>[]
 |x::r=>jE σ x::hY σ r
end
theorem tO(σ:Heap): ∀(l:List aC),(hY σ l).length=l.length
 |[]=>rfl
 |x::r=>by simp[hY,tO σ r]
theorem tP(σ:Heap): ∀{l:List aC} {j:Nat} {x:aC},(hY σ l)[j]? =some x→∃y,l[j]? =some y∧x=jE σ y
 |[],j,x,h=>by simp[hY]at h
 |y::r,j,x,h=>by
  cases j with
  |zero=>simp[hY]at h;exact⟨y,by simp,h.symm⟩
  |succ j=>simp[hY]at h;simpa using tP σ h
theorem Qz(σ:Heap): ∀{l:List aC} {m:List a1},y4 σ l=some m→∀{j:Nat} {x:a1},m[j]? =some x→∃y,l[j]? =some y∧tN σ y=some x
 |[],m,h,j,x,af=>by simp[y4]at h;subst h;simp at af
 |y::r,m,h,j,x,af=>by
  simp only[y4]at h
  split at h
  ·rename_i z l aa ae
   simp only[Option.some.injEq]at h;subst h
   cases j with
   |zero=>simp at af;subst af;exact⟨y,rfl,aa⟩
   |succ j=>simp at af;simpa using Qz σ ae af
  ·cases h
abbrev tQ(ro:Nat→Prop)(σ:Heap)(β:Nat→Value):Nat→Prop:=fun b=>ro b∨Own σ β b
theorem QA{w:World}{ro:Nat→Prop}{σ:Heap}{β:Nat→Value}{N id:Nat}(bd:gX w ro σ β N){z:Bool}{t:TypeId}{n:Nat}{es:List (List a1)}(ah:aD σ id=some (.row z t n es)):cN w (tQ ro σ β) (.aM n es) (β id):=by
 have an:=bd.c6 id _ ah
 cases an with
 |row t n es xs aa ae av=>exact aa.I5 ae (fun j x af=>(av j x af).keep (fun _ _=>rfl) fun _ h=>.inl h) fun b ad=>.inr ⟨id,_,ah,rfl,ad⟩
 |gb t n es aa=>exact aa.keep (fun _ _=>rfl) fun _ h=>.inl h
theorem QB{w:World}{ro:Nat→Prop}{σ:Heap}{β:Nat→Value}{N id:Nat}(bd:gX w ro σ β N){bM:vK}(ah:aD σ id=some (.bK bM)){au:a1}(aw:bM.view=some au):cN w (tQ ro σ β) au (β id):=by
 have an:=bd.c6 id _ ah
 cases an with
 |bK _ b o aa ae av=>exact bM.Ps au aw w ro _ _ o b av aa ae (fun _ h=>.inl h) (.inr ⟨id,_,ah,rfl,aa⟩)
theorem zcu{w:World}{ro:Nat→Prop}{σ:Heap}{β:Nat→Value}{N:Nat}(bd:gX w ro σ β N){x:aC}{c:Value}{y:a1}(h:bp w ro σ β N x c)(ax:tN σ x=some y):cN w (tQ ro σ β) y c:=by
 cases h with
 |au x c hx=>
  simp only[tN,Option.some.injEq]at ax;subst ax;exact hx.keep (fun _ _=>rfl) fun _ h=>.inl h
 |aM id c ar ak=>
  simp only[tN]at ax
  split at ax
  ·rename_i z t n es ah
   simp only[Option.some.injEq]at ax;subst ax;rw[ak z t n es ah];exact QA bd ah
  ·cases ax
 |ref id c ar ak=>
  simp only[tN]at ax
  split at ax
  ·rename_i bM ah
   rw[ak bM ah];exact QB bd ah ax
  ·cases ax
 |_=>cases ax
theorem Je{w:World}{ro:Nat→Prop}{σ:Heap}{β:Nat→Value}{N:Nat}(bd:gX w ro σ β N){x:aC}{c:Value}(h:bp w ro σ β N x c):bp w (tQ ro σ β) σ β N (jE σ x) c:=by
 induction h with
 |aM id c ar ak=>
  simp only[jE]
  split
  ·rename_i z t n es ah
   rw[ak z t n es ah];exact .au _ _ (QA bd ah)
  ·exact .aM id c ar ak
 |ptr id off c ar ak=>
  simp only[jE]
  split
  ·rename_i t cs ah
   split
   ·rename_i l Jf
    obtain⟨b,ad,rfl⟩:=ak t cs ah
    have an:=bd.c6 id _ ah
    cases an with
    |box t cs b' arr aA bh ct e1=>
     rw[ad]at aA;simp only[Value.pointer.injEq,Option.some.injEq,Addr.mk.injEq,and_true]at aA;subst aA
     have at_: ∀j x,l[j]? =some x→∃y,cs[off+j]? =some y∧tN σ y=some x:=fun j x af=>by
      obtain⟨y,aa,ae⟩:=Qz σ Jf af;rw[List.getElem?_drop]at aa
      exact⟨y,aa,ae⟩
     refine .au _ _ (.ptr l _ (fun j=>arr.getD (off+j) undef) (fun j x af=>?_) fun j x af=>?_)
     ·obtain⟨y,aa,_⟩:=at_ j x af
      refine⟨.inr ⟨id,_,ah,rfl,by rw[ad];rfl⟩,?_⟩
      have bI:off+j<arr.size:=by rw[ct];exact(List.getElem?_eq_some_iff.1 aa).1
      rw[addLit,cell_of_row w b (off+j) arr t (0,0) bh];simp[bI]
     ·obtain⟨y,aa,ae⟩:=at_ j x af
      exact zcu bd (e1 _ y aa) ae
   ·exact .ptr id off c ar ak
  ·exact .ptr id off c ar ak
 |au x c h=>exact .au x c (h.keep (fun _ _=>rfl) fun _ h=>.inl h)
 |agg cs c aa _ aZ=>
  refine .agg _ c (by rw[tO];exact aa) fun j x af=>?_
  obtain⟨y,ax,rfl⟩:=tP σ af;exact aZ j y ax
 |tuple cs c aa _ aZ=>
  refine .tuple _ c (by rw[tO];exact aa) fun j x af=>?_
  obtain⟨y,ax,rfl⟩:=tP σ af;exact aZ j y ax
 |cV id i off c aa ae=>exact .cV id i off c aa ae
 |dx id n c aa ae=>exact .dx id n c aa ae
 |fn f p q c d aa ae _ _ gZ ha=>
  refine .fn f _ _ c d (by rw[tO];exact aa) (by rw[tO];exact ae) (fun j x af=>?_) (fun j x af=>?_)
  ·obtain⟨y,ax,rfl⟩:=tP σ af
   exact gZ j y ax
  ·obtain⟨y,ax,rfl⟩:=tP σ af
   exact ha j y ax
 |ref id c ar ak=>
  simp only[jE]
  split
  ·rename_i bM ah
   split
   ·rename_i au aw
    rw[ak bM ah];exact .au _ _ (QB bd ah aw)
   ·exact .ref id c ar ak
  ·exact .ref id c ar ak
 |top c=>exact .top c
mutual
def jF:aC→Bool
 | .au (.v _)=>true
 | .agg cs=>mI cs
 | .tuple cs=>mI cs
 |_=>false
def mI:List aC→Bool
 |[]=>true
 |x::r=>jF x&&mI r
end
theorem Cu: ∀{cs:List aC},mI cs=true→∀{j:Nat} {x:aC},cs[j]? =some x→jF x=true
 |[],_,j,x,h=>by simp at h
 |y::r,ad,j,x,h=>by
  simp only[mI,Bool.and_eq_true]at ad
  cases j with
  |zero=>simp at h;subst h;exact ad.1
  |succ j=>simp at h;exact Cu ad.2 h
theorem Cv{w w':World}{ro ro':Nat→Prop}{σ bU:Heap}{β yN:Nat→Value}{N M:Nat}{x:aC}{c:Value}(h:bp w ro σ β N x c)(ak:jF x=true):bp w' ro' bU yN M x c:=by
 induction h with
 |au x c h=>
  cases h with
  |v _ hx=>exact .au _ _ (.v _ hx)
  |ptr=>simp[jF]at ak
  |aM=>simp[jF]at ak
  |mp=>simp[jF]at ak
  |ek=>simp[jF]at ak
  |li=>simp[jF]at ak
 |agg cs c aa _ aZ=>
  simp only[jF]at ak;exact .agg cs c aa fun j x af=>aZ j x af (Cu ak af)
 |tuple cs c aa _ aZ=>
  simp only[jF]at ak;exact .tuple cs c aa fun j x af=>aZ j x af (Cu ak af)
 |_=>simp[jF]at ak
section
variable {P:Program} {G:a8} {s:aO}
theorem dO.Jg{o:Oper}{x:Operand}{xs:Array Operand}{ts:Array TypeId}(an:o.op= .call {callee:=.value x,args:=xs,argTypes:=ts}){f:FuncId}{p q:List aC}(hx:aI G s x= .fn (.func f) p q)
 (gz:mE P f=true){args:List aC}(hV:hY s.heap (p++xs.toList.map (aI G s)++q)=args)(oy:e3 args=true){r:aC}(hc:dE P G f args [] 0 fun dF tR=>dF=r∧tR=[])(hsc:jF r=true):
 dO P G o s (s.put o.dst r):=by
 intro E a w ⟨β,ro,h⟩ zbV zbW IP
 have lg:=h.eval x
 rw[hx]at lg
 generalize he:a.eval x=IQ at lg
 cases lg with
 |fn _ _ _ c d aa ae ak aJ=>
  unfold Oper.wp;simp only[execOp,an,resolve,he,Deferred.ofValue,Sem.run_bind,Sem.run_pure,Result.andThen_ok,invoke];rw[Cf gz]
  have nj: ∀b,Own s.heap β b→b<w.heap.size:=fun b ⟨k,p,aj,ak,bf⟩=>(h.heap.c6 k p aj).hB ak bf
  have hlen:args.length=p.length+xs.size+q.length:=by rw[←hV,tO];simp[Nat.add_assoc]
  have dZ: ∀i y,(p++xs.toList.map (aI G s)++q)[i]? =some y→bp w ro s.heap β s.next y ((c++xs.map a.eval++d).getD i undef):=fun i y ax=>by
   rw[Array.getD_eq_getD_getElem?]
   rcases Nat.lt_or_ge i (p.length+xs.size)with hi|hi
   ·rw[List.getElem?_append_left (by simpa using hi)]at ax
    rw[Array.getElem?_append_left (by simpa[aa]using hi)]
    rcases Nat.lt_or_ge i p.length with l4|l4
    ·rw[List.getElem?_append_left l4]at ax
     rw[Array.getElem?_append_left (by omega),←Array.getD_eq_getD_getElem?]
     exact ak i y ax
    ·rw[List.getElem?_append_right l4,List.getElem?_map]at ax
     rw[Array.getElem?_append_right (by omega),aa]
     cases aV:xs.toList[i-p.length]? with
     |none=>simp[aV]at ax
     |some z=>
      simp only[aV,Option.map_some,Option.some.injEq]at ax;subst ax
      have oF:xs[i-p.length]? =some z:=by simpa using aV
      simp only[Array.getElem?_map,oF,Option.map_some,Option.getD_some]
      exact h.eval z
   ·rw[List.getElem?_append_right (by simpa using hi)]at ax
    rw[Array.getElem?_append_right (by simpa[aa]using hi),←Array.getD_eq_getD_getElem?]
    have:=aJ _ y ax
    simpa[aa]using this
  have hb:=hc w β (tQ ro s.heap β) (c++xs.map a.eval++d) (by simp only[Array.size_append,Array.size_map];omega) (fun i y ax=>by
   rw[←hV]at ax;obtain⟨z,aV,rfl⟩:=tP _ ax
   exact np (Je h.heap (dZ i z aV)) (mD oy (by rw[←hV];exact ax))) ⟨by simp[aD],by simp[aD],fun b _ ⟨_,_,ah,_⟩=>by simp[aD]at ah,fun b ad=>ad.elim (h.heap.lt b) (nj b)⟩
   (h.h3.keep (fun _ _=>rfl) fun _ h=>.inl h) (by simp[aD])
  refine Calls.mono hb fun e w' aJ=>?_
  obtain⟨v,eP,fE,dK,ro',cH,rfl,⟨rfl,rfl⟩,dy,hG,cD⟩:=aJ
  have kS: ∀b,¬Own ([]:Heap) β b:=fun b ⟨_,_,ah,_⟩=>by simp[aD]at ah
  have lh: ∀b,b<w.heap.size→w'.heap[b]? =w.heap[b]? :=fun b ad=>cD.frame b ad (kS b)
  have ah:=h.grow (w':=w') (ro':=ro) cD.os cD.tape cD.output cD.size lh (fun _ h=>h) (fun _ h=>.inl h)
  exact IP _ _ ⟨β,ro,ah.put o.dst _ _ (Cv dy hsc)⟩
theorem zcv{o:Oper}{f:FuncId}{p q:Array Operand}(an:o.op= .makeFunc (.func f) p q):cL P G o s (.fn (.func f) (p.toList.map (aI G s)) (q.toList.map (aI G s))):=
 fun _ a w β ro ag=>by
  refine⟨.func (.func f) (p.map a.eval) (q.map a.eval),by simp[execOp,an,Instr.makeFunc],.fn _ _ _ _ _ (by simp) (by simp) (fun j x af=>?_) (fun j x af=>?_)⟩<;>
  ·rw[List.getElem?_map]at af
   rw[Array.getD_eq_getD_getElem?,Array.getElem?_map]
   simp only[Array.getElem?_toList]at af
   obtain⟨z,aV,rfl⟩:=Option.map_eq_some_iff.1 af;simp only[aV,Option.map_some,Option.getD_some];exact ag.eval z
end
end Go.aK
namespace Go.aK
open Go
inductive Hint (P:Program) (G:a8):Type 1 where
 |run (n:Nat)
 |cast (u v:aC) (h:u=v)
 |idx {α:Type} (C:α→List a1) (l:List α) (n j:Nat) (e:α) (h:l[j]? =some e)
 |QC (b:ByteArray) (j:Nat) (u:UInt8) (h:b.data.toList[j]? =some u)
 |len {α:Type} (C:α→List a1) (l:List α) (n:Nat)
 |call (f:FuncId) (args:List aC) (r:aC) (bU:Heap) (K:Nat) (h:dE P G f args [] 0 fun dF tR=>dF=r∧tR=bU)
 |take {α:Type} (C:α→List a1) (l:List α) (n k:Nat) (h:k≤l.length)
 |QD {α:Type} (C:α→List a1) (l:List α) (e n:Nat)
 |app {α:Type} (C:α→List a1) (l m:List α) (id e n bytes:Nat) (h:l.length+m.length≤maxLen∧(l.length+m.length)*bytes≤140737488355328)
 |QE (mx:Bool) (a b:Int)
 |lit (e n:Nat) (es:List (List a1))
 |row (e n:Nat) (es:List (List a1))
 |QF (b:ByteArray)
 |y3 (k:Nat) (m:List (Option Nat))
 |mH (id:Nat)
 |QG {α:Type} (C:α→List a1) (l:List α) (id n j:Nat) (h:j<l.length)
 |QH {α:Type} (C:α→List a1) (l:List α) (id n:Nat)
 |QI {α:Type} (C:α→List a1) (l:List α) (id n j off k:Nat) (e:α) (h:l[j]? =some e)
 |QJ {α:Type} (C:α→List a1) (l:List α) (id n j off:Nat) (e:α) (h:l[j]? =some e)
 |mk {α:Type} (C:α→List a1) (d:α) (m c e n bytes:Nat) (h:m≤c∧c≤maxLen∧bytes*c≤281474976710656)
 |QK (j:Nat)
 |QL {α:Type} (C:α→List a1) (l:List α) (n:Nat) (lo hi:Option Nat) (aa:lo.getD 0≤hi.getD l.length) (ae:hi.getD l.length≤l.length)
 |QM (b:ByteArray) (lo hi:Option Nat) (aa:lo.getD 0≤hi.getD b.size) (ae:hi.getD b.size≤b.size)
 |slot (k:Nat) (u v:aC) (h:u=v)
 |Jh (k e n:Nat)
 |QN {α:Type} (C:α→List a1) (l:List α) (id n j off:Nat) (e:α) (h:l[j]? =some e)
 |QO {α:Type} (C:α→List a1) (l:List α) (id n j off:Nat) (e ay:α) (h:l[j]? =some e)
 |QP
 |Jg (f:FuncId) (p q args:List aC) (r:aC) (h:dE P G f args [] 0 fun dF tR=>dF=r∧tR=[])
def wc:a1→a1
 | .aM _ []=>.v (.slice none 0 0)
 | .li _ []=>.v (.slice none 0 0)
 |x=>x
theorem QQ{w:World}{ro:Nat→Prop}{x:a1}{v:Value}(h:wc x= .v v)(aw:v.oneCell'=true):cN w ro x v:=by
 unfold wc at h
 split at h
 ·rename_i n
  simp only[a1.v.injEq]at h;subst h;exact .aM n [] none 0 (fun _=>undef) (Nat.le_refl _) (Nat.zero_le _) (by simp) (by simp) (by simp)
 ·rename_i i
  simp only[a1.v.injEq]at h;subst h;exact .li i [] _ (.aM (bZ i) [] none 0 (fun _=>undef) (Nat.le_refl _) (Nat.zero_le _) (by simp) (by simp) (by simp))
 ·subst h
  exact .v _ aw
section
variable {P:Program} {G:a8} {o:Oper} {s:aO}
theorem zcw{α:Type}(C:α→List a1)(d:α)(m c:Nat){t:TypeId}{x y:Operand}(an:o.op= .makeSlice t x y){e n bytes:Nat}(aH:pS P t=some (e,n,bytes)){zs:List Value}(aV:zeroCells P e=some zs)(r5:zs.all Value.oneCell'=true)
 (hd:zs.map a1.v=(C d).map wc)(hx:aI G s x=iF (m:Int))(ax:aI G s y=iF (c:Int))(bQ:m≤c∧c≤maxLen∧bytes*c≤281474976710656):
 vV P G o s e n ((List.replicate m d).map C):=by
 obtain⟨i,z,hu,hi,QR,ik,ji,e8,hn⟩:=pF aH
 obtain⟨ij,_,ou,yR,hg,oF⟩:=yG (P:=P) aV default
 have QS:z.cells=zs.toArray:=by
  rw[hi]at hg;simp only[Option.some.injEq]at hg;subst hg;rw[QR]at oF;simp only[Option.some.injEq]at oF;subst oF;exact ou
 have l1:zs.length=n:=by rw[←e8,QS];simp
 have nr:(C d).length=n:=by rw[←l1];have:=congrArg List.length hd;simpa using this.symm
 have ni: ∀q∈(List.replicate m d).map C,q.length=n:=by
  intro q aJ;rw[List.mem_map]at aJ;obtain⟨u,hu,rfl⟩:=aJ;rw[List.mem_replicate]at hu;rw[hu.2];exact nr
 refine⟨ni,fun E a w β ro ag=>?_⟩
 have Ji:(c:Int)≤9223372036854775807:=by
  have h:=bQ.2.1
  simp only[maxLen]at h;omega
 have yY:(i.bytes:Int)*(c:Int)≤281474976710656:=by
  have h:((i.bytes*c:Nat):Int)≤281474976710656:=by rw[ji];have:=bQ.2.2;omega
  rwa[Int.natCast_mul]at h
 have cn:=run_make (P:=P) w t e i z hu hi QR .i64 .i64 (m:Int) (c:Int) (by omega) (by have:=bQ.1;omega) yY Ji
 simp only[Int.toNat_natCast,ik]at cn
 refine⟨.slice (some ⟨w.heap.size,0,none⟩) m c,(madeCells z.cells (c*n)).toList.take (m*n),_,by simp only[execOp,an,ag.ec hx,ag.ec ax,Sem.run_bind,cn,Result.andThen_ok,Sem.run_pure],⟨?_,.inr ⟨w.heap.size,c,madeCells z.cells (c*n),by rw[List.length_map,List.length_replicate],Nat.zero_le _,heap_alloc_new w _,by rw[List.length_map,List.length_replicate];exact bQ.1,bQ.2.1,size_madeCells _ _,by rw[List.length_map,List.length_replicate]⟩⟩,World.grownBy_alloc w _ none,fun b bf=>?_,fun j x af=>?_⟩
 ·rw[List.length_take,Array.length_toList,size_madeCells,List.length_map,List.length_replicate,Nat.min_eq_left (Nat.mul_le_mul_right _ bQ.1)]
 ·simp only[b5]at bf
  split at bf
  ·cases bf
  ·simp at bf;omega
 ·have cJ:j<m*n:=by
   have:=(List.getElem?_eq_some_iff.1 af).1
   rwa[jS ni,List.length_map,List.length_replicate]at this
  have hm:j=(j/ n)*n+j%n:=by rw[Nat.mul_comm];exact(Nat.div_add_mod j n).symm
  have nq:j%n<n:=Nat.mod_lt _ hn
  have zcx:j/ n<m:=by rw[Nat.div_lt_iff_lt_mul hn];exact cJ
  rw[hm,qF ni (i:=j/ n) (e:=C d) (by simp[zcx]) (j%n) nq]at af
  have av:j%n<zs.length:=by omega
  have yF:j<c*n:=Nat.lt_of_lt_of_le cJ (Nat.mul_le_mul_right _ bQ.1)
  have aA:((madeCells z.cells (c*n)).toList.take (m*n)).getD j undef=zs[j%n]:=by
   simp[List.getD,cJ,madeCells,QS,yF,l1,List.getElem?_eq_getElem av]
  rw[aA]
  have QT:=congrArg (·[j%n]?) hd
  simp only[List.getElem?_map,af,List.getElem?_eq_getElem av,Option.map_some,Option.some.injEq]at QT
  refine QQ QT.symm ?_
  rw[List.all_eq_true]at r5;exact r5 _ (List.getElem_mem av)
end
section
variable {P:Program} {G:a8} {o:Oper} {s:aO}
theorem QU(j:Nat){t:TypeId}{x i:Operand}(an:o.op= .index t x i){len e:Nat}(hu:P.underlying t=some (.array len e))(hsc:scalar P e=true)(bQ:(P.info? e).map (·.size)=some 1)(hi:aI G s i=iF (j:Int)){cs:List aC}(hx:aI G s x= .agg cs){v:aC}(aw:cs[j]? =some v)(af:j<len):cL P G o s v:=
 fun _ a w β ro ag=>by
  have h:=ag.eval x
  rw[hx]at h;generalize he:a.eval x=c at h
  cases h with
  |agg _ c ai hc=>
   have bI:j<c.size:=by have:=(List.getElem?_eq_some_iff.1 aw).1;omega
   have yU:(sizeOf e).run P w= .ok 1 w:=by
    cases hi:P.info? e with
    |none=>simp[hi]at bQ
    |some i=>simp[hi]at bQ;simp[sizeOf,typeInfo,hi,bQ]
   refine⟨c[j],?_,by simpa[bI]using hc _ v aw⟩
   simp[execOp,an,he,ag.ec hi,Instr.index,asIntOf,run_underlying hu,yU,part,yA hsc,bI,af]
end
section
variable {P:Program} {G:a8}
def Cw:Hint P G→aC
 | .run _=>.top
 | .cast u _ _=>u
 | .idx C l n j _ _=>.tuple [.au (.aM n (l.map C)),iF (j:Int)]
 | .QC b j _ _=>.tuple [vs b,iF (j:Int)]
 | .len C l n=>.au (.aM n (l.map C))
 | .call f args _ _ _ _=>.tuple (.fn (.func f) [] []::args)
 | .take C l n k _=>.tuple [.au (.aM n (l.map C)),iF (k:Int)]
 | .QD C l _ n=>.au (.aM n (l.map C))
 | .app C l m id _ n _ _=>.tuple [.aM id,.au (.aM n (l.map C)),.au (.aM n (m.map C))]
 | .QE _ a b=>.tuple [iF a,iF b]
 | .lit _ n es=>.au (.aM n es)
 | .row _ n es=>.au (.aM n es)
 | .QF b=>vs b
 | .y3 _ _=>.top
 | .mH _=>.top
 | .QG C l id n j _=>.tuple [.aM id,.au (.aM n (l.map C)),iF (j:Int)]
 | .QH C l id n=>.tuple [.aM id,.au (.aM n (l.map C))]
 | .QI C l id n j off _ _ _=>.tuple [.cV id j off,.au (.aM n (l.map C))]
 | .QJ C l id n j off _ _=>.tuple [.cV id j off,.au (.aM n (l.map C))]
 | .mk C d m c _ _ _ _=>.tuple [iF (m:Int),iF (c:Int),.au (.ptr ((C d).map wc))]
 | .QK j=>iF (j:Int)
 | .QL C l n lo hi _ _=>.tuple [.au (.aM n (l.map C)),(match lo with|some k=>iF (k:Int)|none=>.top),(match hi with|some k=>iF (k:Int)|none=>.top)]
 | .QM b lo hi _ _=>.tuple [vs b,(match lo with|some k=>iF (k:Int)|none=>.top),(match hi with|some k=>iF (k:Int)|none=>.top)]
 | .slot _ u _ _=>u
 | .Jh _ _ _=>.top
 | .QN C l id n j off _ _=>.tuple [.cV id j off,.au (.aM n (l.map C))]
 | .QO C l id n j off _ ay _=>.tuple [.cV id j off,.au (.aM n (l.map C)),.au (.ptr (C ay))]
 | .QP=>.top
 | .Jg f p q args _ _=>.tuple (.fn (.func f) p q::args)
def rowOf(σ:Heap)(id n:Nat):Option (TypeId × List (List a1)):=
 match aD σ id with
 |some (.row false t m es)=>match Nat.beq m n with
  |true=>some (t,es)
  |false=>none
 |_=>none
def pZ(P:Program)(G:a8)(o:Oper)(s:aO):Hint P G→Option (aC × aO)
 | .cast _ v _=>match qX P G o s with
  |some a=>some (a,s.put o.dst v)
  |none=>none
 | .idx C _ n _ e _=>match o.op with
  | .indexAddr t x i=>match jW P t with
   |some cH=>match Nat.beq cH n with
    |true=>some (.tuple [aI G s x,aI G s i],s.put o.dst (.au (.ptr (C e))))
    |false=>none
   |none=>none
  |_=>none
 | .QC _ _ u _=>match o.op with
  | .index t x i=>match isStr P t with
   |true=>some (.tuple [aI G s x,aI G s i],s.put o.dst (.au (.v (.int .u8 (u.toNat:Int)))))
   |false=>none
  |_=>none
 | .len _ l _=>match o.op with
  | .call c=>match c.callee,c.args.toList,c.argTypes.toList with
   | .builtin .len,[x],[t]=>match isSlice P t with
    |true=>some (aI G s x,s.put o.dst (iF (l.length:Int)))
    |false=>none
   |_,_,_=>none
  |_=>none
 | .call f _ r bU K _=>match o.op with
  | .call c=>match c.callee with
   | .value x=>match mE P f&&(e3 (c.args.toList.map fun y=>hE s.heap (aI G s y))&&(gy K r&&(kQ K bU&&Nat.ble s.base s.next)))with
    |true=>some (.tuple (aI G s x::c.args.toList.map fun y=>hE s.heap (aI G s y)),{s with heap:=kR s.next bU++s.heap,next:=s.next+K}.put o.dst (pQ s.next r))
    |false=>none
   |_=>none
  |_=>none
 | .take C l n k _=>match o.op with
  | .slice t x none (some y) none=>match jW P t with
   |some cH=>match Nat.beq cH n with
    |true=>some (.tuple [aI G s x,aI G s y],s.put o.dst (.au (.aM n ((l.take k).map C))))
    |false=>none
   |none=>none
  |_=>none
 | .QD _ _ _ _=>none
 | .app C l m id e n bytes _=>match o.op with
  | .call c=>match c.callee,c.args.toList,c.argTypes.toList with
   | .builtin .append,[x,y],[t,bz]=>match pS P t with
    |some (ay,cH,b')=>match Nat.beq t bz&&(Nat.beq ay e&&(Nat.beq cH n&&(Nat.beq b' bytes&&(Nat.ble s.base id&&Nat.blt id s.next)))),rowOf s.heap id n with
     |true,some (bh,es)=>match Nat.beq bh e with
      |true=>some (.tuple [aI G s x,.au (.aM n es),aI G s y],aO.put ⟨ed id s.cO,(id,.row false e n ((l++m).map C))::du id s.heap,s.next,s.base⟩ o.dst (.aM id))
      |false=>none
     |_,_=>none
    |none=>none
   |_,_,_=>none
  |_=>none
 | .QE mx a b=>match o.op with
  | .call c=>match c.callee,c.args.toList,mx with
   | .builtin .min,[x,y],false=>some (.tuple [aI G s x,aI G s y],s.put o.dst (iF (if b<a then b else a)))
   | .builtin .max,[x,y],true=>some (.tuple [aI G s x,aI G s y],s.put o.dst (iF (if b>a then b else a)))
   |_,_,_=>none
  |_=>none
 | .lit e n es=>match o.op with
  | .buildSlice t len parts=>match nu P G s t len parts.toList with
   |some (ay,cH,dN)=>match Nat.beq ay e&&Nat.beq cH n with
    |true=>some (.au (.aM n dN),s.put o.dst (.au (.aM n es)))
    |false=>none
   |none=>none
  |_=>none
 | .row e n es=>match o.op with
  | .buildSlice t len parts=>match nu P G s t len parts.toList with
   |some (ay,cH,dN)=>match Nat.beq ay e&&(Nat.beq cH n&&Nat.ble s.base s.next)with
    |true=>some (.au (.aM n dN),{s with heap:=(s.next,.row false e n es)::s.heap,next:=s.next+1}.put o.dst (.aM s.next))
    |false=>none
   |none=>none
  |_=>none
 | .QF b=>match o.op with
  | .range t x=>match isStr P t&&Nat.ble s.base s.next with
   |true=>some (aI G s x,{s with heap:=(s.next,.bK (pV b 0))::s.heap,next:=s.next+1}.put o.dst (.ref s.next))
   |false=>none
  |_=>none
 | .QG _ _ id n j _=>match o.op with
  | .indexAddr t x i=>match jW P t,rowOf s.heap id n with
   |some cH,some (_,es)=>match Nat.beq cH n with
    |true=>some (.tuple [aI G s x,.au (.aM n es),aI G s i],s.put o.dst (.cV id j 0))
    |false=>none
   |_,_=>none
  |_=>none
 | .QH _ l id n=>match o.op with
  | .call c=>match c.callee,c.args.toList,c.argTypes.toList with
   | .builtin .len,[x],[t]=>match isSlice P t,rowOf s.heap id n with
    |true,some (_,es)=>some (.tuple [aI G s x,.au (.aM n es)],s.put o.dst (iF (l.length:Int)))
    |_,_=>none
   |_,_,_=>none
  |_=>none
 | .QI C _ id n _ off k e _=>match o.op with
  | .load t x=>match lV P t,rowOf s.heap id n with
   |some bk,some (_,es)=>match Nat.beq bk k&&(Nat.ble 1 k&&Nat.ble k ((C e).drop off).length)with
    |true=>some (.tuple [aI G s x,.au (.aM n es)],s.put o.dst (.agg ((((C e).drop off).map aC.au).take k)))
    |false=>none
   |_,_=>none
  |_=>none
 | .QJ C _ id n _ off e _=>match o.op with
  | .load t x=>match scalar P t,rowOf s.heap id n,(C e).drop off with
   |true,some (_,es),v::_=>some (.tuple [aI G s x,.au (.aM n es)],s.put o.dst (.au v))
   |_,_,_=>none
  |_=>none
 | .QL C l n lo hi _ _=>match o.op with
  | .slice t x y5 y6 none=>match jW P t,y5.isSome==lo.isSome&&y6.isSome==hi.isSome with
   |some cH,true=>match Nat.beq cH n with
    |true=>some (.tuple [aI G s x,(match y5 with|some y=>aI G s y|none=>.top),(match y6 with|some y=>aI G s y|none=>.top)],s.put o.dst (.au (.aM n (((l.take (hi.getD l.length)).drop (lo.getD 0)).map C))))
    |false=>none
   |_,_=>none
  |_=>none
 | .QM b lo hi _ _=>match o.op with
  | .slice t x y5 y6 none=>match isStr P t&&(y5.isSome==lo.isSome&&y6.isSome==hi.isSome)with
   |true=>some (.tuple [aI G s x,(match y5 with|some y=>aI G s y|none=>.top),(match y6 with|some y=>aI G s y|none=>.top)],s.put o.dst (vs (b.extract (lo.getD 0) (hi.getD b.size))))
   |false=>none
  |_=>none
 | .QK j=>match o.op with
  | .index t x i=>match P.underlying t,aI G s x with
   |some (.array len e),.agg cs=>match cs[j]?,scalar P e&&(Nat.blt j len&&((P.info? e).map (·.size)==some 1))with
    |some v,true=>some (aI G s i,s.put o.dst v)
    |_,_=>none
   |_,_=>none
  |_=>none
 | .mk C d m _ e n bytes _=>match o.op with
  | .makeSlice t x y=>match pS P t,zeroCells P e with
   |some (ay,cH,b'),some zs=>match Nat.beq ay e&&(Nat.beq cH n&&(Nat.beq b' bytes&&(zs.all Value.oneCell'&&Nat.ble s.base s.next)))with
    |true=>some (.tuple [aI G s x,aI G s y,.au (.ptr (zs.map a1.v))],{s with heap:=(s.next,.row false e n ((List.replicate m d).map C))::s.heap,next:=s.next+1}.put o.dst (.aM s.next))
    |false=>none
   |_,_=>none
  |_=>none
 | .QN _ _ id n j off _ _=>match o.op with
  | .fieldAddr t x f=>match r4 P t f,rowOf s.heap id n with
   |some k,some (_,es)=>some (.tuple [aI G s x,.au (.aM n es)],s.put o.dst (.cV id j (off+k)))
   |_,_=>none
  |_=>none
 | .QO C l id n j off e ay _=>match o.op with
  | .store t p x=>match rowOf s.heap id n,iE (cP (aI G s x))with
   |some (bt,es),some vs=>match((P.info? t).map (·.size)==some vs.length)&&Nat.ble (off+vs.length) n with
    |true=>some (.tuple [aI G s p,.au (.aM n es),.au (.ptr (eh (C e) off vs))],{s with heap:=eL s.heap id (.row false bt n ((l.set j ay).map C))}.put o.dst .top)
    |false=>none
   |_,_=>none
  |_=>none
 | .QP=>match o.op with
  | .makeFunc (.func f) p q=>some (.top,s.put o.dst (.fn (.func f) (p.toList.map (aI G s)) (q.toList.map (aI G s))))
  |_=>none
 | .Jg f p q _ r _=>match o.op with
  | .call c=>match c.callee with
   | .value x=>match mE P f&&(e3 (hY s.heap (p++c.args.toList.map (aI G s)++q))&&jF r)with
    |true=>some (.tuple (aI G s x::hY s.heap (p++c.args.toList.map (aI G s)++q)),s.put o.dst r)
    |false=>none
   |_=>none
  |_=>none
 |_=>none
theorem QV{α:Type}{a:Array α}{x:α}(h:a.toList=[x]):a= #[x]:=by apply Array.ext';simpa using h
theorem y7{α:Type}{a:Array α}{x y:α}(h:a.toList=[x,y]):a= #[x,y]:=by apply Array.ext';simpa using h
end
end Go.aK
