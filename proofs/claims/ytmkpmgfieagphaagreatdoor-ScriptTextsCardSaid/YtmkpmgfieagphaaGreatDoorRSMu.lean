/- The AV calculus, part K: append, make, cuts of slices and strings, small builtins, conversions. Conditions: none. -/
import Derived.Test.YtmkpmgfieagphaaGreatDoorRSMj
import Derived.Maps.AppendAt
import Derived.Orders
import Derived.Laws.RangeString
import Derived.Laws.RangeAny
namespace Go.aM
open Go
def h9(σ:bA)(n:Nat):aE→Option (List (List bh))
 | .au (.aP m es)=>if m=n then some es else none
 | .au (.v (.slice none 0 0))=>some []
 | .au (.li i l)=>if c8 i=n then some (l.map (cZ i))else none
 | .aP id=>match aF σ id with
  |some (.row _ _ m es)=>if m=n then some es else none
  |_=>none
 |_=>none
section
variable {P:Program} {G:a7} {o:Oper} {s:aN}
theorem dt.elems{w:World}{ro:Nat→Prop}{n:Nat}{es:List (List bh)}{c:Value}(h:dt w ro (.aP n es) c):
 ∃b cap,c= .slice b es.length cap∧(∀e∈es,e.length=n)∧(b=none→es=[])∧∃f:Nat→Value,(∀a,b=some a→∀j,j<es.length*n→w.cell? (a.add j)=some (f j))∧∀j x,es.flatten[j]? =some x→dt w ro x (f j):=by
 cases h with
 |aP _ _ b cap f aa ad aq aS bC=>
  refine⟨b,cap,rfl,aq,fun ae=>?_,f,fun a aI j ai=>?_,bC⟩
  ·rcases Nat.eq_zero_or_pos es.length with h|h
   ·exact List.eq_nil_of_length_eq_zero h
   ·obtain⟨a,aI,_⟩:=aS h
    rw[ae]at aI;cases aI
  ·have ak:0<es.length:=by
    rcases Nat.eq_zero_or_pos es.length with h|h
    ·rw[h]at ai;simp at ai
    ·exact h
   obtain⟨aY,HL,hc⟩:=aS ak;rw[aI]at HL;simp only[Option.some.injEq]at HL;subst HL;exact(hc j ai).2
theorem B9{w:World}{ro:Nat→Prop}{σ:bA}{β:Nat→Value}{N:Nat}(aX:ho w ro σ β N){x:aE}{c:Value}(h:bs w ro σ β N x c){n:Nat}{es:List (List bh)}(he:h9 σ n x=some es):
 ∃b cap,c= .slice b es.length cap∧(∀e∈es,e.length=n)∧(b=none→es=[])∧∃f:Nat→Value,(∀a,b=some a→∀j,j<es.length*n→w.cell? (a.add j)=some (f j))∧∀j x,es.flatten[j]? =some x→dt w ro x (f j):=by
 cases h with
 |au x c hx=>
  cases x with
  |v y=>
   cases hx
   cases c with
   |slice a l iu=>
    cases a with
    |none=>
     cases l with
     |zero=>
      cases iu with
      |zero=>
       simp[h9]at he;subst he;exact⟨none,0,rfl,by simp,fun _=>rfl,fun _=>undef,by simp,by simp⟩
      |succ=>simp[h9]at he
     |succ=>simp[h9]at he
    |some=>simp[h9]at he
   |_=>simp[h9]at he
  |ptr=>simp[h9]at he
  |mp=>simp[h9]at he
  |li i l=>
   simp only[h9]at he
   split at he
   ·rename_i hm
    subst hm;simp only[Option.some.injEq]at he;subst he
    cases hx with
    |li _ _ _ hx=>exact hx.elems
   ·cases he
  |aP m ez=>
   simp only[h9]at he
   split at he
   ·rename_i hm
    subst hm;simp only[Option.some.injEq]at he;subst he;exact hx.elems
   ·cases he
 |aP id c ao ak=>
  simp only[h9]at he
  split at he
  ·rename_i z t m ez ah
   split at he
   ·rename_i hm
    subst hm;simp only[Option.some.injEq]at he;subst he;rw[ak z t _ _ ah]
    have du:=aX.c7 id _ ah
    cases du with
    |row _ _ _ xs aa ad aq=>
     rcases aa.2 with⟨⟨b,av,_⟩,bu⟩|⟨g,cap,cur,av,hc,Ym,hle,iS,fA,lD⟩
     ·have:ez=[]:=List.eq_nil_of_length_eq_zero bu
      subst this;rw[av];exact⟨b,0,rfl,by simp,fun _=>rfl,fun _=>undef,by simp,by simp⟩
     ·rw[av]
      refine⟨_,_,rfl,ad,by simp,fun j=>xs.getD j undef,fun a aI j ai=>?_,aq⟩
      simp only[Option.some.injEq]at aI;subst aI;rw[addLit,Nat.zero_add,cell_of_row w g j cur t (0,0) Ym]
      have hx:xs[j]? =cur[j]? :=by rw[←lD,List.getElem?_take,if_pos ai];simp
      have lE:j<xs.length:=by rw[aa.1];exact ai
      rw[←hx];simp[List.getD,List.getElem?_eq_getElem lE]
    |fV _ _ _ aa=>exact aa.elems
   ·cases he
  ·cases he
 |_=>simp[h9]at he
theorem HM{w:World}(t ty e:TypeId){i:TypeInfo}{z:Value}{n bytes:Nat}(aG:P.underlying t=some (.slice e))(hi:P.info? e=some i)(bu:i.zero=some z)(ia:i.size=n)(iV:i.bytes=bytes)(oG:z.cells.size=n)(hn:0<n)
 {v:Value}{len:Nat}{xs:List Value}(dL:kA w e n v len xs){b:Option Addr}{m cap:Nat}{news:List Value}(ao:news.length=m*n)(ae:b=none→m=0)(Yn: ∀a,b=some a→∀j u,news[j]? =some u→w.cell? (a.add j)=some u)
 (aa: ∀u∈news,u.oneCell'=true)(r8:len+m≤maxLen)(yK:(len+m)*bytes≤140737488355328):
 ∃bx w',(Builtin.append_ #[t,t] ty #[v,.slice b m cap]).run P w= .ok bx w'∧kA w' e n bx (len+m) (xs++news)∧w.grownBy w' (cf v)∧(∀k,cf bx=some k→cf v=some k∨w.heap.size≤k):=by
 by_cases hm:m=0
 ·subst hm
  have r9:news=[]:=List.eq_nil_of_length_eq_zero (by simpa using ao)
  subst r9;refine⟨v,w,?_,by simpa using dL,World.grownBy.refl w _,fun k aj=>.inl aj⟩
  have O4:(Builtin.firstCells n 0 (.slice b 0 cap)).run P w= .ok #[] w:=by
   cases b with
   |none=>simp[Builtin.firstCells]
   |some a=>simp[Builtin.firstCells,loadCells,loadCellsFrom]
  rcases dL.2 with⟨⟨c,rfl,_⟩,rfl⟩|⟨g,iu,cur,rfl,_,_,hle,_⟩
  ·cases c<;>simp[Builtin.append_,run_underlying aG,sizeOf,typeInfo,hi,ia,Builtin.lenOf,O4,storeCells]
  ·simp[Builtin.append_,run_underlying aG,sizeOf,typeInfo,hi,ia,Builtin.lenOf,O4,storeCells,hle]
 ·cases b with
  |none=>exact absurd (ae rfl) hm
  |some a=>
   have fk:=Yn a rfl
   have own:w.ownsRow 0 e n v len xs→_:=fun jt=>run_append_own_at (P:=P) w 0 t ty e i z n bytes aG hi bu ia iV oG hn v len xs jt a m cap news ao fk aa r8 yK (Nat.zero_le _)
   have fin:w.ownsRow 0 e n v len xs→v.ownBlock=cf v→∃bx w',(Builtin.append_ #[t,t] ty #[v,.slice (some a) m cap]).run P w= .ok bx w'∧kA w' e n bx (len+m) (xs++news)∧w.grownBy w' (cf v)∧(∀k,cf bx=some k→cf v=some k∨w.heap.size≤k):=by
    intro jt bc;obtain⟨bx,w',g1,g2,g3,_,g5⟩:=own jt;refine⟨bx,w',g1,.HK g2,bc ▸ g3,fun k aj=>?_⟩
    have eB:bx.ownBlock=some k:=by
     cases bx with
     |slice c l p=>
      cases c with
      |none=>simp[cf]at aj
      |some c=>
       simp only[cf]at aj
       split at aj
       ·cases aj
       ·simpa[Value.ownBlock]using aj
     |pointer c=>
      rcases g2.2 with⟨h,_⟩|⟨_,_,_,h,_⟩<;>cases h
     |map c=>
      rcases g2.2 with⟨h,_⟩|⟨_,_,_,h,_⟩<;>cases h
     |_=>simp[cf]at aj
    rcases g5 with h|h
    ·rw[h,bc]at eB;exact .inl eB
    ·rw[h]at eB;simp at eB;exact .inr (by omega)
   rcases dL.2 with⟨⟨c,rfl,_⟩,rfl⟩|⟨g,iu,cur,rfl,yL,ah,hle,iS,fA,lD⟩
   ·have hx:xs=[]:=List.eq_nil_of_length_eq_zero (by simpa using dL.1)
    subst hx
    cases c with
    |none=>exact fin (World.ownsRow_nil w 0 e n) rfl
    |some c=>
     have c2:=run_append_grow (P:=P) w t ty e i z aG hi bu c 0 0 [] (by simp) (by simp) a m cap news (by rw[ia];exact ao) fk (by omega) (by simp only[maxLen]at r8;omega) (growslice_fits (by omega) (by rw[iV];exact yK))
     have jt:=World.ownsRow_made (e:=e) (size:=n) w.drew (news.toArray++Builtin.zeroCells z.cells (grownCap w (0+m) 0 e-(0+m))) (grownCap w (0+m) 0 e) (base:=0) (Nat.zero_le _) (grownCap_le_maxLen w (0+m) 0 e r8) (by
      have:=grownCap_ge w (0+m) 0 e
      simp only[Array.size_append,List.size_toArray,size_zeroCells,oG,ao,←Nat.add_mul]
      congr 1
      omega)
     refine⟨_,_,c2,?_,⟨rfl,rfl,rfl,by simp,fun k aj _=>Go.RowKit.Below.heap_alloc w.drew _ k aj⟩,fun k aj=>?_⟩
     ·have hY:=grownCap_ge w (0+m) 0 e
      refine⟨by simp[ao],.inr ⟨w.heap.size,grownCap w (0+m) 0 e,_,rfl,by omega,heap_alloc_new w.drew _,hY,grownCap_le_maxLen w (0+m) 0 e r8,?_,?_⟩⟩
      ·simp only[Array.size_append,List.size_toArray,size_zeroCells,oG,ao,←Nat.add_mul,List.length_nil,Nat.zero_add]at hY⊢
       congr 1
       omega
      ·simp only[Array.toList_append,List.nil_append,Nat.zero_add]
       rw[←ao];exact List.take_left
     ·simp only[cf]at aj
      split at aj
      ·cases aj
      ·simp at aj;exact .inr (by omega)
   ·exact fin ⟨dL.1,.inr ⟨g,iu,cur,rfl,Nat.zero_le _,ah,hle,iS,fA,lD⟩⟩ (by simp[Value.ownBlock,cf,Nat.ne_of_gt yL])
def pB(P:Program)(t:TypeId):Option (Nat × Nat × Nat):=
 match P.underlying t with
 |some (.slice e)=>match P.info? e with
  |some i=>match i.zero with
   |some z=>if z.cells.size=i.size∧0<i.size then some (e,i.size,i.bytes)else none
   |none=>none
  |none=>none
 |_=>none
theorem Ca{t e n bytes:Nat}(h:pB P t=some (e,n,bytes)): ∃i z,P.underlying t=some (.slice e)∧P.info? e=some i∧i.zero=some z∧i.size=n∧i.bytes=bytes∧z.cells.size=n∧0<n:=by
 unfold pB at h
 split at h
 ·rename_i ax hu
  split at h
  ·rename_i i hi
   split at h
   ·rename_i z bu
    split at h
    ·rename_i hc
     simp only[Option.some.injEq,Prod.mk.injEq]at h;obtain⟨rfl,rfl,rfl⟩:=h;exact⟨i,z,hu,hi,bu,rfl,rfl,hc.1,hc.2⟩
    ·cases h
   ·cases h
  ·cases h
 ·cases h
theorem HN{w:World}{ro:Nat→Prop}{n:Nat}{es:List (List bh)}(hn: ∀e∈es,e.length=n){f:Nat→Value}(hf: ∀j x,es.flatten[j]? =some x→dt w ro x (f j)):
 ((List.range (es.length*n)).map f).length=es.length*n∧(∀u∈(List.range (es.length*n)).map f,u.oneCell'=true)∧∀j x,es.flatten[j]? =some x→dt w ro x (((List.range (es.length*n)).map f).getD j undef):=by
 refine⟨by simp,fun u hu=>?_,fun j x ai=>?_⟩
 ·rw[List.mem_map]at hu
  obtain⟨j,ai,rfl⟩:=hu;rw[List.mem_range]at ai
  have ao:=jS hn
  exact(hf j (es.flatten[j]'(by omega)) (by simp)).one
 ·have ao:=jS hn
  have dT:=(List.getElem?_eq_some_iff.1 ai).1
  have:j<es.length*n:=by omega
  simpa[List.getD,this]using hf j x ai
theorem Cb{w:World}{ro:Nat→Prop}{n:Nat}{es fs:List (List bh)}(hn: ∀e∈es,e.length=n){xs ys:List Value}(hx:xs.length=es.length*n)(aa: ∀j x,es.flatten[j]? =some x→dt w ro x (xs.getD j undef))
 (ad: ∀j x,fs.flatten[j]? =some x→dt w ro x (ys.getD j undef)): ∀j x,(es++fs).flatten[j]? =some x→dt w ro x ((xs++ys).getD j undef):=by
 intro j x ai
 rw[List.flatten_append]at ai
 have ao:=jS hn
 by_cases h:j<es.flatten.length
 ·rw[List.getElem?_append_left h]at ai
  have:=aa j x ai
  rw[List.getD,List.getElem?_append_left (by omega)]
  exact this
 ·rw[List.getElem?_append_right (by omega)]at ai
  have:=ad _ x ai
  rw[List.getD,List.getElem?_append_right (by omega),hx,←ao]
  exact this
theorem Yo(x y:Operand)(t:TypeId)(an:o.op= .call {callee:=.builtin .append,args:=#[x,y],argTypes:=#[t,t]}){e n bytes:Nat}(aG:pB P t=some (e,n,bytes))
 {id:Nat}(hx:aJ G s x= .aP id){es:List (List bh)}(hid:aF s.heap id=some (.row false e n es))(ae:s.base≤id)(bB:id<s.next)
 {fs:List (List bh)}(az:h9 s.heap n (aJ G s y)=some fs)(bK:es.length+fs.length≤maxLen∧(es.length+fs.length)*bytes≤140737488355328):
 eh P G o s (aN.put ⟨ej id s.cE,(id,.row false e n (es++fs))::dv id s.heap,s.next,s.base⟩ o.dst (.aP id)):=by
 intro E a w ⟨β,ro,af⟩ K Q hK
 obtain⟨i,z,hu,hi,bu,ia,iV,oG,hn⟩:=Ca aG
 obtain⟨b,cap,hc,sa,uj,f,jX,uk⟩:=B9 af.heap (af.eval y) az
 have du:=af.heap.c7 id _ hid
 cases du with
 |row _ _ _ xs dL cb fk=>
  have lJ:a.eval x=β id:=by
   have h:=af.eval x
   rw[hx]at h;generalize a.eval x=c at h
   cases h with
   |aP _ _ _ ak=>exact ak _ _ _ _ hid
  obtain⟨sb,tC,yM⟩:=HN sa uk
  obtain⟨bx,w',cU,oH,c2,bc⟩:=HM (P:=P) t o.type e hu hi bu ia iV oG hn dL (b:=b) (m:=fs.length) (cap:=cap) sb (fun ae=>by rw[uj ae];rfl)
   (fun aY aI j u ai=>by
    have dT:=(List.getElem?_eq_some_iff.1 ai).1
    rw[sb]at dT
    have aa:=jX aY aI j dT
    simp[dT]at ai
    rw[aa,ai]) tC bK.1 bK.2
  unfold Oper.wp;simp only[execOp,an,resolve,invoke,builtin,Sem.run_bind,Sem.run_pure,Result.andThen_ok,List.map_toArray,List.map_cons,List.map_nil,lJ,hc,cU]
  have kC: ∀k,k<w.heap.size→cf (β id)≠some k→w'.heap[k]? =w.heap[k]? :=fun k aj cb=>c2.block k aj (fun e=>cb e.symm)
  have cc: ∀k,ro k→w'.heap[k]? =w.heap[k]? :=fun k aj=>kC k (af.heap.lt k aj) fun bc=>af.heap.fz k aj ⟨id,_,hid,rfl,bc⟩
  refine hK _ _ ⟨hq β id bx,ro,c9.put (af.renew (w':=w') id ae bB hid (.row false e n (es++fs)) bx c2.os c2.tape c2.output c2.size kC bc rfl ?_) o.dst _ _ ?_⟩
  ·refine .row e n _ _ (by rw[eA,List.length_append];exact oH) (fun ax lF=>?_) (fun j x ai=>?_)
   ·rw[List.mem_append]at lF
    rcases lF with h|h
    ·exact cb _ h
    ·exact sa _ h
   ·exact(Cb cb dL.1 fk yM j x ai).keep cc fun _ h=>h
  ·exact .aP _ _ bB fun z bw cR ez _=>(eA _ _ _).symm
theorem Yp(x y:Operand)(t:TypeId)(an:o.op= .call {callee:=.builtin .append,args:=#[x,y],argTypes:=#[t,t]}){e n bytes:Nat}(aG:pB P t=some (e,n,bytes))
 (hx:aJ G s x= .au (.v (.slice none 0 0)))(ae:s.base≤s.next)
 {fs:List (List bh)}(az:h9 s.heap n (aJ G s y)=some fs)(bK:fs.length≤maxLen∧fs.length*bytes≤140737488355328):
 eh P G o s ({s with heap:=(s.next,.row false e n fs)::s.heap,next:=s.next+1}.put o.dst (.aP s.next)):=by
 intro E a w ⟨β,ro,af⟩ K Q hK
 obtain⟨i,z,hu,hi,bu,ia,iV,oG,hn⟩:=Ca aG
 obtain⟨b,cap,hc,sa,uj,f,jX,uk⟩:=B9 af.heap (af.eval y) az
 obtain⟨sb,tC,yM⟩:=HN sa uk
 obtain⟨bx,w',cU,oH,c2,bc⟩:=HM (P:=P) (w:=w) t o.type e hu hi bu ia iV oG hn (v:=.slice none 0 0) (len:=0) (xs:=[]) ⟨by simp,.inl ⟨⟨none,rfl,fun _ h=>(by cases h)⟩,rfl⟩⟩ (b:=b) (m:=fs.length) (cap:=cap) sb (fun ae=>by rw[uj ae];rfl)
  (fun aY aI j u ai=>by
   have dT:=(List.getElem?_eq_some_iff.1 ai).1
   rw[sb]at dT
   have aa:=jX aY aI j dT
   simp[dT]at ai
   rw[aa,ai]) tC (by omega) (by rw[Nat.zero_add];exact bK.2)
 unfold Oper.wp
 simp only[execOp,an,resolve,invoke,builtin,Sem.run_bind,Sem.run_pure,Result.andThen_ok,List.map_toArray,List.map_cons,List.map_nil,af.ep hx,hc,cU]
 have k6:aF s.heap s.next=none:=by
  cases ah:aF s.heap s.next with
  |none=>rfl
  |some p=>have:=af.trans.new _ _ ah;omega
 have hw: ∀b,b<w.heap.size→w'.heap[b]? =w.heap[b]? :=fun b ae=>c2.block b ae (by simp[cf])
 have cc: ∀b,ro b→w'.heap[b]? =w.heap[b]? :=fun b ae=>hw b (af.heap.lt b ae)
 refine hK _ _ ⟨hq β s.next bx,ro,c9.put (af.new (w':=w') s.next k6 ae (Nat.le_refl _) (.row false e n fs) bx c2.os c2.tape c2.output c2.size hw (fun b ae=>?_) rfl ?_) o.dst _ _ ?_⟩
 ·rcases bc b ae with h|h
  ·simp[cf]at h
  ·exact h
 ·refine .row e n _ _ (by rw[eA];simpa using oH) sa (fun j x ai=>(yM j x ai).keep cc fun _ h=>h)
 ·exact .aP _ _ (Nat.lt_succ_self _) fun z bw cR ez _=>(eA _ _ _).symm
theorem O5{cap len:Nat}{isS:Bool}{lo hi mx:Option Value}{l h m:Nat}(hm:(mx=none∧m=cap)∨∃k,mx=some (.int k (m:Int)))(aX:(hi=none∧mx=none∧h=len)∨∃k,hi=some (.int k (h:Int)))
 (ao:(lo=none∧l=0)∨∃k,lo=some (.int k (l:Int)))(aa:l≤h)(ad:h≤m)(aq:m≤cap)(w:World):(Instr.sliceBounds isS len cap lo hi mx).run P w= .ok (l,h,m) w:=by
 rcases hm with⟨rfl,rfl⟩|⟨zdH,rfl⟩<;>rcases aX with⟨rfl,sc,rfl⟩|⟨zdI,rfl⟩<;>rcases ao with⟨rfl,rfl⟩|⟨O6,rfl⟩
 all_goals first
  |(cases sc;done)
  |simp[Instr.sliceBounds,Instr.sliceBound,asIntOf,aa,ad,aq]
theorem Cc (t : TypeId) (x : Operand) (lo hi : Option Operand) (an : o.op = .slice t x lo hi none) (aG : P.underlying t = some .string) {b : ByteArray} (hx : aJ G s x = .au (.v (.string b))) {l h : Nat}
    (ao : (lo = none ∧ l = 0) ∨ ∃ y k, lo = some y ∧ aJ G s y = .au (.v (.int k (l : Int)))) (aX : (hi = none ∧ h = b.size) ∨ ∃ y k, hi = some y ∧ aJ G s y = .au (.v (.int k (h : Int)))) (aa : l ≤ h) (ad : h ≤ b.size) :
    cV P G o s (.au (.v (.string (b.extract l h)))) :=
  fun _ a w β ro af => by
    have ae := O5 (P := P) (cap := b.size) (len := b.size) (isS := false) (lo := lo.map a.eval) (hi := hi.map a.eval) (mx := none) (l := l) (h := h) (m := b.size) (.inl ⟨rfl, rfl⟩)
      (by rcases aX with ⟨rfl, rfl⟩ | ⟨y, k, rfl, az⟩
          · exact .inl ⟨rfl, rfl, rfl⟩
          · exact .inr ⟨k, by simp [af.ep az]⟩)
      (by rcases ao with ⟨rfl, rfl⟩ | ⟨y, k, rfl, az⟩
          · exact .inl ⟨rfl, rfl⟩
          · exact .inr ⟨k, by simp [af.ep az]⟩) aa ad (Nat.le_refl _) w
    exact ⟨_, by simp [execOp, an, af.ep hx, Instr.sliceAt, run_underlying aG, Instr.slice, ae], .fO rfl⟩
theorem O7(src dst:TypeId)(x:Operand)(an:o.op= .convert src dst x)(ag:(P.underlying src).isSome=true){br:IntKind}(hd:P.underlying dst=some (.int br)){k:IntKind}{n:Int}(hx:aJ G s x= .au (.v (.int k n))):
 cV P G o s (.au (.v (.int br (br.wrap n)))):=
 fun _ a w β ro af=>by
  cases hu:P.underlying src with
  |none=>simp[hu]at ag
  |some d=>exact⟨_,by simp[execOp,an,af.ep hx,convert,run_underlying hu,run_underlying hd,Conv.intToInt],.fO rfl⟩
theorem O8(x y:Operand)(ts:Array TypeId)(an:o.op= .call {callee:=.builtin .min,args:=#[x,y],argTypes:=ts}){k:IntKind}{m n:Int}(hx:aJ G s x= .au (.v (.int k m)))(az:aJ G s y= .au (.v (.int k n))):
 cV P G o s (.au (.v (.int k (if n<m then n else m)))):=
 fun _ a w β ro af=>⟨.int k (if n<m then n else m),by simp[execOp,an,resolve,invoke,builtin,af.ep hx,af.ep az,run_min_int2],.fO rfl⟩
theorem O9(x y:Operand)(ts:Array TypeId)(an:o.op= .call {callee:=.builtin .max,args:=#[x,y],argTypes:=ts}){k:IntKind}{m n:Int}(hx:aJ G s x= .au (.v (.int k m)))(az:aJ G s y= .au (.v (.int k n))):
 cV P G o s (.au (.v (.int k (if n>m then n else m)))):=
 fun _ a w β ro af=>⟨.int k (if n>m then n else m),by simp[execOp,an,resolve,invoke,builtin,af.ep hx,af.ep az,run_max_int2],.fO rfl⟩
theorem Yq(cl ty:TypeId)(x y:Operand)(an:o.op= .binOp .add cl x y ty){u v:ByteArray}(hx:aJ G s x= .au (.v (.string u)))(az:aJ G s y= .au (.v (.string v)))(bK:u.size+v.size≤9223372036854775807):
 cV P G o s (.au (.v (.string (u++v)))):=
 oA .add cl ty x y an hx az (by
  simp only[jU]
  rw[if_neg (by simp only[IntKind.max_i64];omega)])
end
end Go.aM
namespace Go.aM
open Go
def pC(s:aN)(o:Oper)(v:aE):Option aN:=some (s.put o.dst v)
def isStr(P:Program)(t:TypeId):Bool:=
 match P.underlying t with
 |some .string=>true
 |_=>false
def Cd(P:Program)(t:TypeId):Bool:=
 match P.underlying t with
 |some .bool=>true
 |_=>false
theorem um{P:Program}{t:TypeId}(h:isStr P t=true):P.underlying t=some .string:=by
 unfold isStr at h
 split at h
 ·assumption
 ·cases h
theorem Ce{P:Program}{t:TypeId}(h:Cd P t=true):P.underlying t=some .bool:=by
 unfold Cd at h
 split at h
 ·assumption
 ·cases h
def HO(P:Program)(G:a7)(b:Builtin)(xs:List Operand)(ts:List TypeId)(s:aN):Option aE:=
 match b,xs,ts with
 | .len,[x],[t]=>match lI s.heap (aJ G s x)with
  |some m=>if isSlice P t then some (.au (.v (.int .i64 (m:Int))))else none
  |none=>match aJ G s x with
   | .au (.v (.string b))=>if isStr P t then some (.au (.v (.int .i64 (b.size:Int))))else none
   |_=>match B6 P t with
    |some n=>some (.au (.v (.int .i64 (n:Int))))
    |none=>none
 | .min,[x,y],_=>match aJ G s x,aJ G s y with
  | .au (.v (.int k m)),.au (.v (.int br n))=>if k=br then some (.au (.v (.int k (if n<m then n else m))))else none
  |_,_=>none
 | .max,[x,y],_=>match aJ G s x,aJ G s y with
  | .au (.v (.int k m)),.au (.v (.int br n))=>if k=br then some (.au (.v (.int k (if n>m then n else m))))else none
  |_,_=>none
 |_,_,_=>none
def qY(P:Program)(G:a7)(o:Oper)(s:aN):Option aE:=
 match o.op with
 | .move x=>some (aJ G s x)
 | .assign x=>some (aJ G s x)
 | .load t x=>match fj s.heap (aJ G s x)with
  |some cs=>match l8 P t with
   |some n=>if n≤cs.length∧0<n then some (.agg (cs.take n))else none
   |none=>if scalar P t then match cs with
    |y::_=>some y
    |[]=>none
    else none
  |none=>none
 | .fieldAddr t x f=>match r5 P t f,jT s.heap (aJ G s x)with
  |some k,true=>some (qI k (aJ G s x))
  |_,_=>none
 | .nilCheck x=>match jT s.heap (aJ G s x)with
  |true=>some (aJ G s x)
  |false=>none
 | .field t x f=>match aJ G s x,vS P t f with
  | .agg cs,some (off,none)=>match cs[off]? with
   |some v=>some v
   |none=>none
  | .agg cs,some (off,some n)=>if off+n≤cs.length then some (.agg ((cs.drop off).take n))else none
  |_,_=>none
 | .indexAddr t x i=>match aJ G s i with
  | .au (.v (.int _ (.ofNat j)))=>match jV P t with
   |some n=>match nc s.heap n j (aJ G s x)with
    |some p=>some p
    |none=>none
   |none=>match uh P t,fj s.heap (aJ G s x)with
    |some (len,n),some _=>if j<len then match iT (j*n) (aJ G s x)with
     |some p=>some p
     |none=>none
     else none
    |_,_=>none
  |_=>none
 | .index t x i=>match aJ G s i,aJ G s x with
  | .au (.v (.int _ (.ofNat j))),.au (.v (.string b))=>if isStr P t then match b.data.toList[j]? with
   |some u=>some (.au (.v (.int .u8 (u.toNat:Int))))
   |none=>none
   else none
  |_,_=>none
 | .binOp op cl x y _=>match aJ G s x,aJ G s y with
  | .au (.v (.bool u)),.au (.v (.bool v))=>if Cd P cl then match op with
   | .eql=>some (.au (.v (.bool (u==v))))
   | .neq=>some (.au (.v (.bool (!(u==v)))))
   |_=>none
   else none
  | .au (.v u),.au (.v v)=>match jU op u v with
   |some c=>some (.au (.v c))
   |none=>none
  | .agg cs,.agg ds=>match mX P cl,ha cs,ha ds with
   |some fs,some xs,some ys=>match yx P 0 fs xs ys with
    |some b=>match op with
     | .eql=>some (.au (.v (.bool b)))
     | .neq=>some (.au (.v (.bool (!b))))
     |_=>none
    |none=>none
   |_,_,_=>none
  |_,_=>none
 | .unOp op _ x=>match op,aJ G s x with
  | .not,.au (.v (.bool b))=>some (.au (.v (.bool (!b))))
  | .neg,.au (.v (.int k n))=>some (.au (.v (.int k (k.wrap (0-n)))))
  |_,_=>none
 | .pick c x y=>match aJ G s c with
  | .au (.v (.bool true))=>some (aJ G s x)
  | .au (.v (.bool false))=>some (aJ G s y)
  |_=>none
 | .extract x i=>match aJ G s x with
  | .tuple cs=>match cs[i]? with
   |some v=>some v
   |none=>none
  |_=>none
 | .build t parts=>match places P t,zeroCells P t with
  |some pl,some zs=>if zs.all Value.oneCell'∧(parts.toList.map fun p=>(p.1,aJ G s p.2)).all (fun p=>(cA p.2).all (eo s.heap))then
   match jW pl (zs.map fun z=>.au (.v z)) (parts.toList.map fun p=>(p.1,aJ G s p.2))with
   |some ds=>some (.agg ds)
   |none=>none
   else none
  |_,_=>none
 | .call c=>match c.callee with
  | .builtin b=>HO P G b c.args.toList c.argTypes.toList s
  |_=>none
 | .convert src dst x=>match aJ G s x,P.underlying dst with
  | .au (.v (.int _ n)),some (.int br)=>if(P.underlying src).isSome then some (.au (.v (.int br (br.wrap n))))else none
  |_,_=>none
 |_=>none
def HP(P:Program)(G:a7)(o:Oper)(s:aN):Option aN:=
 match qY P G o s with
 |some v=>pC s o v
 |none=>match o.op with
  | .store t p x=>match aJ G s p with
   | .ptr id off=>match aF s.heap id with
    |some (.box bt cs)=>if(cA (aJ G s x)).all (eo s.heap)∧(P.info? t).map (·.size)=some (cA (aJ G s x)).length∧off+(cA (aJ G s x)).length≤cs.length
     then pC {s with heap:=e3 s.heap id (.box bt (ea cs off (cA (aJ G s x))))} o .top else none
    |_=>none
   | .cH id i off=>match aF s.heap id with
    |some (.row false bt n es)=>match es[i]?,iw (cA (aJ G s x))with
     |some e,some vs=>if(P.info? t).map (·.size)=some vs.length∧off+vs.length≤n then pC {s with heap:=e3 s.heap id (.row false bt n (es.set i (ea e off vs)))} o .top else none
     |_,_=>none
    |_=>none
   |_=>none
  | .alloc t=>match zeroCells P t with
   |some zs=>if zs.all Value.oneCell'∧s.base≤s.next then pC {s with heap:=(s.next,.box t (zs.map fun z=>.au (.v z)))::s.heap,next:=s.next+1} o (.ptr s.next 0)else none
   |none=>none
  | .box t x=>if(cA (aJ G s x)).all (eo s.heap)∧s.base≤s.next then pC {s with heap:=(s.next,.box t (cA (aJ G s x)))::s.heap,next:=s.next+1} o (.ptr s.next 0)else none
  |_=>none
section
variable {P:Program} {G:a7} {o:Oper} {s bm:aN} {v:aE}
theorem Yr{b:Builtin}{args:Array Operand}{ts:Array TypeId}(an:o.op= .call {callee:=.builtin b,args,argTypes:=ts})(h:HO P G b args.toList ts.toList s=some v):cV P G o s v:=by
 unfold HO at h
 split at h
 ·rename_i x t aI Ys
  have aA:args= #[x]:=by apply Array.ext';simpa using aI
  have aW:ts= #[t]:=by apply Array.ext';simpa using Ys
  subst aA aW
  split at h
  ·rename_i m hm
   split at h
   ·rename_i aG
    simp only[Option.some.injEq]at h;subst h;exact HE x t an aG hm
   ·cases h
  ·split at h
   ·rename_i b hx
    split at h
    ·rename_i aG
     simp only[Option.some.injEq]at h;subst h;exact HF x t an (um aG) hx
    ·cases h
   ·split at h
    ·rename_i n hn
     simp only[Option.some.injEq]at h;subst h;exact OR x t an hn
    ·cases h
 ·rename_i x y aI
  have aA:args= #[x,y]:=by apply Array.ext';simpa using aI
  subst aA
  split at h
  ·rename_i k m br n hx az
   split at h
   ·rename_i aj
    subst aj;simp only[Option.some.injEq]at h;subst h;exact O8 x y ts an hx az
   ·cases h
  ·cases h
 ·rename_i x y aI
  have aA:args= #[x,y]:=by apply Array.ext';simpa using aI
  subst aA
  split at h
  ·rename_i k m br n hx az
   split at h
   ·rename_i aj
    subst aj;simp only[Option.some.injEq]at h;subst h;exact O9 x y ts an hx az
   ·cases h
  ·cases h
 ·cases h
theorem HQ(h:qY P G o s=some v):cV P G o s v:=by
 unfold qY at h
 split at h
 ·rename_i x an
  simp only[Option.some.injEq]at h;subst h;exact N7 x an
 ·rename_i x an
  simp only[Option.some.injEq]at h;subst h;exact N8 x an
 ·rename_i t x an
  split at h
  ·rename_i cs hc
   split at h
   ·rename_i n hn
    split at h
    ·rename_i ao
     simp only[Option.some.injEq]at h;subst h;exact N9 t x an hn hc ao.1 ao.2
    ·cases h
   ·split at h
    ·rename_i ag
     split at h
     ·simp only[Option.some.injEq]at h;subst h;exact Hk t x an ag hc
     ·cases h
    ·cases h
  ·cases h
 ·rename_i t x f an
  split at h
  ·rename_i k aj hc
   simp only[Option.some.injEq]at h;subst h;exact Oc t x f an aj hc
  ·cases h
 ·rename_i x an
  split at h
  ·rename_i hc
   simp only[Option.some.injEq]at h;subst h;exact Od x an hc
  ·cases h
 ·rename_i t x f an
  split at h
  ·rename_i cs off hx aG
   split at h
   ·rename_i v av
    simp only[Option.some.injEq]at h;subst h;exact OV t x f an aG hx av
   ·cases h
  ·rename_i cs off n hx aG
   split at h
   ·rename_i hn
    simp only[Option.some.injEq]at h;subst h;exact OW t x f an aG hx hn
   ·cases h
  ·cases h
 ·rename_i t x i an
  split at h
  ·rename_i k j hi
   split at h
   ·rename_i n hn
    split at h
    ·rename_i p ak
     simp only[Option.some.injEq]at h;subst h;exact OT t x i an hn hi ak
    ·cases h
   ·split at h
    ·rename_i len n cs aG fA
     split at h
     ·rename_i ai
      split at h
      ·rename_i p ak
       simp only[Option.some.injEq]at h;subst h;exact HG t x i an aG hi ai fA ak
      ·cases h
     ·cases h
    ·cases h
  ·cases h
 ·rename_i t x i an
  split at h
  ·rename_i k j b hi hx
   split at h
   ·rename_i aG
    split at h
    ·rename_i u hu
     simp only[Option.some.injEq]at h;subst h;exact OU t x i an (um aG) hi hx hu
    ·cases h
   ·cases h
  ·cases h
 ·rename_i op cl x y ty an
  split at h
  ·rename_i u v hx az
   split at h
   ·rename_i aG
    split at h
    ·simp only[Option.some.injEq]at h;subst h;exact Ow cl ty x y an (Ce aG) hx az
    ·simp only[Option.some.injEq]at h;subst h;exact Ox cl ty x y an (Ce aG) hx az
    ·cases h
   ·cases h
  ·rename_i u v _ hx az
   split at h
   ·rename_i c hc
    simp only[Option.some.injEq]at h;subst h;exact oA _ cl ty x y an hx az hc
   ·cases h
  ·rename_i cs ds hx az
   split at h
   ·rename_i fs xs ys hf nO ma
    split at h
    ·rename_i b ae
     split at h
     ·simp only[Option.some.injEq]at h;subst h;exact OD cl ty x y an hf hx az nO ma ae
     ·simp only[Option.some.injEq]at h;subst h;exact OE cl ty x y an hf hx az nO ma ae
     ·cases h
    ·cases h
   ·cases h
  ·cases h
 ·rename_i op t x an
  split at h
  ·rename_i b hx
   simp only[Option.some.injEq]at h;subst h;exact OF t x an hx
  ·rename_i k n hx
   simp only[Option.some.injEq]at h;subst h;exact OG t x an hx
  ·cases h
 ·rename_i c x y an
  split at h
  ·rename_i hc
   simp only[Option.some.injEq]at h;subst h;exact yz c x y an hc rfl
  ·rename_i hc
   simp only[Option.some.injEq]at h;subst h;exact yz c x y an hc rfl
  ·cases h
 ·rename_i x i an
  split at h
  ·rename_i cs hx
   split at h
   ·rename_i v av
    simp only[Option.some.injEq]at h;subst h;exact OH x i an hx av
   ·cases h
  ·cases h
 ·rename_i t parts an
  split at h
  ·rename_i pl zs ak bu
   split at h
   ·rename_i hc
    split at h
    ·rename_i ds hf
     simp only[Option.some.injEq]at h;subst h;exact O0 t parts an ak bu hc.1 rfl hc.2 hf
    ·cases h
   ·cases h
  ·cases h
 ·rename_i c an
  split at h
  ·rename_i b ae
   obtain⟨callee,args,ts⟩:=c;simp only at ae h;subst ae;exact Yr an h
  ·cases h
 ·rename_i src dst x an
  split at h
  ·rename_i k n br hx hd
   split at h
   ·rename_i ag
    simp only[Option.some.injEq]at h;subst h;exact O7 src dst x an ag hd hx
   ·cases h
  ·cases h
 ·cases h
theorem Yt(h:HP P G o s=some bm):eh P G o s bm:=by
 unfold HP at h
 split at h
 ·rename_i v av
  simp only[pC,Option.some.injEq]at h;subst h;exact(HQ av).step
 ·split at h
  ·rename_i t p x an
   split at h
   ·rename_i id off ak
    split at h
    ·rename_i bt cs ah
     split at h
     ·rename_i hc
      simp only[pC,Option.some.injEq]at h;subst h;exact Om t p x an ak ah rfl hc.1 hc.2.1 hc.2.2
     ·cases h
    ·cases h
   ·rename_i id i off ak
    split at h
    ·rename_i bt n es ah
     split at h
     ·rename_i e vs he av
      split at h
      ·rename_i hc
       simp only[pC,Option.some.injEq]at h;subst h;exact Oo t p x an ak ah he av hc.1 hc.2
      ·cases h
     ·cases h
    ·cases h
   ·cases h
  ·rename_i t an
   split at h
   ·rename_i zs bu
    split at h
    ·rename_i hc
     simp only[pC,Option.some.injEq]at h;subst h;exact Ok t an hc.2 bu hc.1
    ·cases h
   ·cases h
  ·rename_i t x an
   split at h
   ·rename_i hc
    simp only[pC,Option.some.injEq]at h;subst h;exact Oi t x an hc.2 hc.1
   ·cases h
  ·cases h
def dX(ops:Array Oper)(s:aN)(o:Oper):Option Bool:=
 match o.guard with
 |none=>some true
 |some (j,b)=>match mb ops j with
  |some d=>match s.cE[d]? with
   |some (.au (.v (.bool c)))=>some (match b,c with
    |true,true=>true
    |false,false=>true
    |_,_=>false)
   |some (.tuple _)=>some false
   |_=>none
  |none=>none
def vU(P:Program)(G:a7)(ops:Array Oper):Nat→List Oper→aN→Option aN
 |0,_,s=>some s
 |n+1,o::r,s=>match dX ops s o with
  |some true=>match HP P G o s with
   |some bm=>vU P G ops n r bm
   |none=>none
  |some false=>vU P G ops n r (s.put o.dst (.tuple []))
  |none=>none
 |_+1,[],_=>none
variable {Q:Exit→aN→Prop}
theorem cp.step{ops:Array Oper}{rest:List Oper}(ah:dX ops s o=some true)(h:eh P G o s bm)(k:cp P G ops Q rest bm):cp P G ops Q (o::rest) s:=by
 unfold dX at ah
 split at ah
 ·rename_i hn
  exact cp.cons hn h k
 ·rename_i j b hn
  split at ah
  ·rename_i d hd
   split at ah
   ·rename_i c ag
    simp only[Option.some.injEq]at ah
    have yN:b=c:=by cases b<;>cases c<;>simp_all
    subst yN;exact cp.guarded hn hd ag h k
   ·cases ah
   ·cases ah
  ·cases ah
theorem cp.pass{ops:Array Oper}{rest:List Oper}(ah:dX ops s o=some false)(k:cp P G ops Q rest (s.put o.dst (.tuple []))):cp P G ops Q (o::rest) s:=by
 unfold dX at ah
 split at ah
 ·cases ah
 ·rename_i j b hn
  split at ah
  ·rename_i d hd
   split at ah
   ·rename_i c ag
    simp only[Option.some.injEq]at ah
    have yN:c= !b:=by cases b<;>cases c<;>simp_all
    subst yN;exact cp.X1 hn hd ag k
   ·rename_i cs ag
    exact cp.X2 hn hd ag k
   ·cases ah
  ·cases ah
theorem cp.run{ops:Array Oper}: ∀(n:Nat) {l:List Oper} {s bm:aN},vU P G ops n l s=some bm→cp P G ops Q (l.drop n) bm→cp P G ops Q l s
 |0,l,s,bm,h,k=>by
  simp[vU]at h;subst h;exact k
 |n+1,[],s,bm,h,k=>by simp[vU]at h
 |n+1,o::r,s,bm,h,k=>by
  simp only[vU]at h
  split at h
  ·rename_i ah
   split at h
   ·rename_i s1 aa
    exact cp.step ah (Yt aa) (cp.run n h k)
   ·cases h
  ·rename_i ah
   exact cp.pass ah (cp.run n h k)
  ·cases h
end
end Go.aM
namespace Go.aM
open Go
abbrev iy(n:Int):aE:=.au (.v (.int .i64 n))
abbrev kk(b:Bool):aE:=.au (.v (.bool b))
abbrev vs(s:ByteArray):aE:=.au (.v (.string s))
abbrev Yu(l:List bh):List aE:=l.map .au
def nf:Nat→Nat→List (Nat × aE)→List aE
 |_,0,_=>[]
 |i,k+1,[]=>.top::nf (i+1) k []
 |i,k+1,(j,v)::r=>if i=j then v::nf (i+1) k r else .top::nf (i+1) k ((j,v)::r)
theorem c4(n:Int)(aa: -9223372036854775808≤n)(ad:n≤9223372036854775807):IntKind.i64.wrap n=n:=by
 rw[IntKind.wrap_i64];omega
def mh(σ:bA):bA→bA
 |[]=>[]
 |(k,.box t cs)::r=>(k,.box t (mf σ cs))::mh σ r
 |(k,.row z t n es)::r=>(k,.row z t n es)::mh σ r
 |(k,.b1 bF)::r=>(k,.b1 bF)::mh σ r
def la(σ:bA):en→en
 | .box t cs=>.box t (mf σ cs)
 | .row z t n es=>.row z t n es
 | .b1 bF=>.b1 bF
theorem qZ(σ:bA): ∀(h:bA) (k:Nat),aF (mh σ h) k=(aF h k).map (la σ)
 |[],k=>by simp[mh,aF]
 |(j,.box t cs)::r,k=>by
  by_cases ai:j=k
  ·simp[mh,aF,ai,la]
  ·simp[mh,aF,ai,qZ σ r k]
 |(j,.row z t n es)::r,k=>by
  by_cases ai:j=k
  ·simp[mh,aF,ai,la]
  ·simp[mh,aF,ai,qZ σ r k]
 |(j,.b1 bF)::r,k=>by
  by_cases ai:j=k
  ·simp[mh,aF,ai,la]
  ·simp[mh,aF,ai,qZ σ r k]
theorem kA.HR{w:World}{ro:Nat→Prop}{t:TypeId}{n:Nat}{v:Value}{es:List (List bh)}{xs:List Value}(h:kA w t n v es.length xs)(hn: ∀e∈es,e.length=n)(hc: ∀j x,es.flatten[j]? =some x→dt w ro x (xs.getD j undef))
 (cc: ∀b,cf v=some b→ro b):dt w ro (.aP n es) v:=by
 rcases h.2 with⟨⟨b,av,_⟩,bu⟩|⟨g,cap,cur,av,ak,ah,hle,iS,fA,lD⟩
 ·subst av
  have:es=[]:=List.eq_nil_of_length_eq_zero bu
  subst this;exact .aP n [] b 0 (fun _=>undef) (by simp) (Nat.zero_le _) (by simp) (by simp) (by simp)
 ·subst av
  refine .aP n es _ cap (fun j=>xs.getD j undef) hle iS hn (fun _=>⟨⟨g,0,none⟩,rfl,fun j ai=>⟨cc g (by simp[cf,Nat.ne_of_gt ak]),?_⟩⟩) hc
  rw[addLit,Nat.zero_add,cell_of_row w g j cur t (0,0) ah]
  have hx:xs[j]? =cur[j]? :=by rw[←lD,List.getElem?_take,if_pos ai];simp
  have lE:j<xs.length:=by rw[h.1];exact ai
  rw[←hx];simp[List.getD,List.getElem?_eq_getElem lE]
def yO(s:aN)(id:Nat):aN:=
 match aF s.heap id with
 |some (.row false t n es)=>⟨mf [(id,.row true t n es)] s.cE,mh [(id,.row true t n es)] (fU s.heap id),s.next,s.base⟩
 |_=>s
theorem cO.yO(s:aN)(id:Nat):cO s (yO s id):=by
 unfold Go.aM.yO
 split
 ·rename_i t n es hid
  intro E G a w ⟨β,ro,h⟩
  have du:=h.heap.c7 id _ hid
  cases du with
  |row _ _ _ xs dL hn hc=>

   have Yv:dt w (fun b=>ro b∨cf (β id)=some b) (.aP n es) (β id):=dL.HR hn (fun j x ai=>(hc j x ai).keep (fun _ _=>rfl) fun _ h=>.inl h) fun b ae=>.inr ae
   have gj: ∀k o,aF (fU s.heap id) k=some o→aF s.heap k=some o∧k≠id:=by
    intro k o aj;rw[BR]at aj
    split at aj
    ·cases aj
    ·rename_i cb
     exact⟨aj,fun e=>cb e.symm⟩
   have view: ∀x c,bs w ro s.heap β s.next x c→bs w (fun b=>ro b∨cf (β id)=some b) (mh [(id,.row true t n es)] (fU s.heap id)) β s.next (mZ [(id,.row true t n es)] x) c:=by
    intro x c hx
    induction hx with
    |au x c hx=>exact .au x c (hx.keep (fun _ _=>rfl) fun _ h=>.inl h)
    |agg cs c aa _ aR=>
     refine .agg _ c (by rw[oC];exact aa) fun j x ai=>?_
     obtain⟨y,az,rfl⟩:=oD _ ai;exact aR j y az
    |tuple cs c aa _ aR=>
     refine .tuple _ c (by rw[oC];exact aa) fun j x ai=>?_
     obtain⟨y,az,rfl⟩:=oD _ ai;exact aR j y az
    |ptr k off c ao ak=>
     refine .ptr k off c ao fun bw cs' ah=>?_
     rw[qZ]at ah
     cases aj:aF (fU s.heap id) k with
     |none=>simp[aj]at ah
     |some p=>
      cases p with
      |box t2 yP=>exact ak t2 yP (gj k _ aj).1
      |row=>simp[aj,la]at ah
      |b1=>simp[aj,la]at ah
    |dF k off c ao ak=>
     refine .dF k off c ao fun bw cs' ah=>?_
     rw[qZ]at ah
     cases aj:aF (fU s.heap id) k with
     |none=>simp[aj]at ah
     |some p=>
      cases p with
      |box t2 yP=>exact ak t2 yP (gj k _ aj).1
      |row=>simp[aj,la]at ah
      |b1=>simp[aj,la]at ah
    |cH k i off c ao ak=>
     refine .cH k i off c ao fun h6 bw cR ez ah=>?_
     rw[qZ]at ah
     cases aj:aF (fU s.heap id) k with
     |none=>simp[aj]at ah
     |some p=>
      cases p with
      |box t2 yP=>simp[aj,la]at ah
      |b1=>simp[aj,la]at ah
      |row z2 t2 e0 Yw=>
       simp only[aj,la,Option.map_some,Option.some.injEq,en.row.injEq]at ah;obtain⟨rfl,rfl,rfl,rfl⟩:=ah;exact ak _ _ _ _ (gj k _ aj).1
    |aP k c ao ak=>
     simp only[mZ,aF]
     by_cases aj:id=k
     ·subst aj
      simp only[if_true];rw[ak _ _ _ _ hid];exact .au _ _ Yv
     ·simp only[if_neg aj]
      refine .aP k c ao fun h6 bw cR ez ah=>?_
      rw[qZ]at ah
      cases eB:aF (fU s.heap id) k with
      |none=>simp[eB]at ah
      |some p=>
       cases p with
       |box t2 yP=>simp[eB,la]at ah
       |b1=>simp[eB,la]at ah
       |row z2 t2 e0 Yw=>exact ak _ _ _ _ (gj k _ eB).1
    |fn f p q c d aa ad _ _ gO gP=>
     refine .fn f _ _ c d (by rw[oC];exact aa) (by rw[oC];exact ad) (fun j x ai=>?_) (fun j x ai=>?_)
     ·obtain⟨y,az,rfl⟩:=oD _ ai
      exact gO j y az
     ·obtain⟨y,az,rfl⟩:=oD _ ai
      exact gP j y az
    |ref k c ao ak=>
     refine .ref k c ao fun bF ah=>?_
     rw[qZ]at ah
     cases aj:aF (fU s.heap id) k with
     |none=>simp[aj]at ah
     |some p=>
      cases p with
      |box=>simp[aj,la]at ah
      |row=>simp[aj,la]at ah
      |b1 lC=>exact ak lC (gj k _ aj).1
    |top c=>exact .top c
   have back: ∀k o,aF (mh [(id,.row true t n es)] (fU s.heap id)) k=some o→∃p,aF s.heap k=some p∧k≠id∧p.live=o.live∧o=la [(id,.row true t n es)] p:=by
    intro k o ah;rw[qZ]at ah
    cases aj:aF (fU s.heap id) k with
    |none=>simp[aj]at ah
    |some p=>
     obtain⟨aa,ad⟩:=gj k p aj;refine⟨p,aa,ad,?_,?_⟩
     ·simp[aj]at ah
      subst ah
      cases p<;>rfl
     ·simp[aj]at ah
      exact ah.symm
   refine⟨β,fun b=>ro b∨cf (β id)=some b,h.defers,by simpa[oC]using h.size,fun i x hx=>?_,⟨fun k o ah=>?_,fun k br o cm b ah dR ao sd ae hp=>?_,fun b ae=>?_,fun b ae=>?_⟩,
    h.hV.keep (fun _ _=>rfl) fun _ h=>.inl h,?_,h.base⟩
   ·obtain⟨y,az,rfl⟩:=oD _ hx
    exact view _ _ (h.slot i y az)
   ·obtain⟨p,aa,ad,aq,rfl⟩:=back k o ah
    have an:=h.heap.c7 k p aa
    cases an with
    |box bw cs' b arr aA aW cr eD=>
     refine .box bw _ b arr aA aW (by rw[oC];exact cr) fun j x ai=>?_
     obtain⟨y,az,rfl⟩:=oD _ ai;exact view _ _ (eD j y az)
    |row bw cR ez Hr aA aW cr=>exact .row bw cR ez Hr aA aW fun j x ai=>(cr j x ai).keep (fun _ _=>rfl) fun _ h=>.inl h
    |fV bw cR ez aA=>exact .fV bw cR ez (aA.keep (fun _ _=>rfl) fun _ h=>.inl h)
    |b1 bF b o aA aW cr=>exact .b1 bF b o aA aW (bF.mono _ _ _ _ (fun x c h=>h.keep (fun _ _=>rfl) fun _ h=>.inl h) cr)
   ·obtain⟨p,aa,_,aq,_⟩:=back k o ah
    obtain⟨fL,tS,_,Yx,_⟩:=back br cm dR;exact h.heap.inj k br p fL b aa tS (aq.trans ao) (Yx.trans sd) ae hp
   ·rintro⟨k,o,ah,ao,bc⟩
    obtain⟨p,aa,ad,aq,_⟩:=back k o ah
    rcases ae with ae|ae
    ·exact h.heap.fz b ae ⟨k,p,aa,aq.trans ao,bc⟩
    ·exact ad (h.heap.inj k id p _ b aa hid (aq.trans ao) rfl bc ae)
   ·rcases ae with ae|ae
    ·exact h.heap.lt b ae
    ·exact(dL.hl ae).1
   ·have bw:=h.trans
    refine⟨bw.os,bw.tape,bw.output,bw.size,bw.frame,fun b ae=>?_,fun b ae=>.inl (bw.jR b ae),?_,fun k aj o ah=>?_,fun k o ah=>?_,bw.le⟩
    ·rcases ae with ae|ae
     ·exact bw.iR b ae
     ·rcases bw.gN b ⟨id,_,hid,rfl,ae⟩with hc|hc
      ·exact .inr (.inl hc)
      ·exact .inr (.inr hc)
    ·rintro b ⟨k,o,ah,ao,bc⟩
     obtain⟨p,aa,_,aq,_⟩:=back k o ah;exact bw.gN b ⟨k,p,aa,aq.trans ao,bc⟩
    ·obtain⟨p,aa,_,_,_⟩:=back k o ah
     exact bw.dK k aj p aa
    ·obtain⟨p,aa,_,_,_⟩:=back k o ah
     exact bw.new k p aa
 ·exact cO.refl s
end Go.aM
namespace Go.aM
open Go
def pD(s:ByteArray)(pos:Nat):BQ:=⟨fun _ v o=>(∃b,v= .pointer (some ⟨b,0,none⟩))∧o= .stringIter s pos,fun _ _ _ _ _ h=>h,none,fun _ h=>by cases h⟩
section
variable {P:Program} {G:a7} {o:Oper} {s:aN}
theorem run_newObj(h7:Obj)(w:World):(newObj h7).run P w= .ok w.heap.size (w.alloc h7):=rfl
theorem Pa{w:World}{r:Nat}{b:ByteArray}{p:Nat}(h:w.heap[r]? =some (.stringIter b p)):(getObj r).run P w= .ok (.stringIter b p) w:=by simp[getObj,Sem.run,h]
theorem Yy{w:World}{r:Nat}{b:ByteArray}{p:Nat}(h7:Obj)(h:w.heap[r]? =some (.stringIter b p)):(setObj r h7).run P w= .ok () {w with heap:=w.heap.setIfInBounds r h7}:=by simp[setObj,Sem.run,h]
theorem Yz(t:TypeId)(x:Operand)(an:o.op= .range t x)(aG:P.underlying t=some .string){b:ByteArray}(hx:aJ G s x= .au (.v (.string b)))(ae:s.base≤s.next):
 eh P G o s ({s with heap:=(s.next,.b1 (pD b 0))::s.heap,next:=s.next+1}.put o.dst (.ref s.next)):=by
 intro E a w ⟨β,ro,af⟩ K Q hK
 unfold Oper.wp
 simp only[execOp,an,af.ep hx,Sem.run_bind,Instr.range,run_underlying aG,Result.andThen_ok,Sem.run_pure]
 have k6:aF s.heap s.next=none:=by
  cases ah:aF s.heap s.next with
  |none=>rfl
  |some p=>have:=af.trans.new _ _ ah;omega
 have gi:=af.new (w':=w.alloc (.stringIter b 0)) s.next k6 ae (Nat.le_refl _) (.b1 (pD b 0)) (.pointer (some ⟨w.heap.size,0,none⟩)) rfl rfl rfl (by simp) (fun b ae=>Go.RowKit.Below.heap_alloc w _ b ae) (fun b ae=>by simp[cf]at ae;omega) rfl
  (.b1 _ w.heap.size (.stringIter b 0) (by rw[eA];rfl) (heap_alloc_new w _) ⟨⟨_,eA _ _ _⟩,rfl⟩)
 have aj:=hK _ _ ⟨_,ro,gi.put o.dst (.ref s.next) (.pointer (some ⟨w.heap.size,0,none⟩)) (.ref _ _ (Nat.lt_succ_self _) fun bF _=>(eA _ _ _).symm)⟩
 rw[run_newObj]
 exact aj
theorem YA(x:Operand)(an:o.op= .next x true){id:Nat}(hx:aJ G s x= .ref id){b:ByteArray}{pos:Nat}(hid:aF s.heap id=some (.b1 (pD b pos)))(ak:b.size≤pos):
 cV P G o s (.tuple [.au (.v (.bool false))]):=
 fun E a w β ro af=>by
  have du:=af.heap.c7 id _ hid
  cases du with
  |b1 _ HS h7 aa ad aq=>
   obtain⟨⟨b',hp⟩,rfl⟩:=aq
   have kD:=af.eval x
   rw[hx]at kD;generalize he:a.eval x=c at kD
   cases kD with
   |ref _ _ _ hc=>
    have uo:=hc _ hid
    rw[hp]at aa uo;simp only[cf,Option.some.injEq]at aa;subst aa;refine⟨.tuple #[.bool false],?_,.tuple _ _ rfl fun j y ai=>?_⟩
    ·have hn: ¬pos<b.size:=by omega
     rw[uo]at he;simp[execOp,an,he,Instr.next,Pa ad,hn]
    ·cases j with
     |zero=>simp at ai;subst ai;exact .fO rfl
     |succ j=>simp at ai
theorem YB(x:Operand)(an:o.op= .next x true){id:Nat}(hx:aJ G s x= .ref id){b:ByteArray}{pos:Nat}(hid:aF s.heap id=some (.b1 (pD b pos)))(ak:pos<b.size){c k:Nat}(hd:Utf8.decode b pos=(c,k)):
 eh P G o s ({s with heap:=e3 s.heap id (.b1 (pD b (pos+k)))}.put o.dst (.tuple [.au (.v (.bool true)),.au (.v (.int .i64 (pos:Int))),.au (.v (.int .i32 (c:Int)))])):=by
 intro E a w ⟨β,ro,af⟩ K Q hK
 have du:=af.heap.c7 id _ hid
 cases du with
 |b1 _ HS h7 aa ad aq=>
  obtain⟨⟨b',hp⟩,rfl⟩:=aq
  have kD:=af.eval x
  rw[hx]at kD;generalize he:a.eval x=q0 at kD
  cases kD with
  |ref _ _ _ hc=>
   have uo:=hc _ hid
   have pE:=aa
   rw[hp]at aa uo;simp only[cf,Option.some.injEq]at aa;subst aa;rw[uo]at he;unfold Oper.wp
   have cU:(execOp a.eval o).run P w= .ok (.value (.tuple #[.bool true,goInt pos,.int .i32 c])) {w with heap:=w.heap.setIfInBounds b' (.stringIter b (pos+k))}:=by
    simp[execOp,an,he,Instr.next,Pa ad,ak,hd,Yy _ ad]
   rw[cU]
   have bB:=(Array.getElem?_eq_some_iff.1 ad).1
   have hw:=af.write (w':={w with heap:=w.heap.setIfInBounds b' (.stringIter b (pos+k))}) id _ (.b1 (pD b (pos+k))) hid rfl rfl (.inr (.inr ⟨_,_,rfl,rfl⟩)) rfl rfl rfl (by simp) (fun j ai cb=>by
    have:b'≠j:=fun e=>cb (by rw[hp,←e];rfl)
    simp[Array.getElem?_setIfInBounds_ne this]) (.b1 _ b' (.stringIter b (pos+k)) pE (by simp[bB]) ⟨⟨b',hp⟩,rfl⟩)
   refine hK _ _ ⟨β,ro,hw.put o.dst _ _ (.tuple _ _ rfl fun j y ai=>?_)⟩
   match j,ai with
   |0,ai=>simp at ai;subst ai;exact .fO rfl
   |1,ai=>simp at ai;subst ai;exact .fO rfl
   |2,ai=>simp at ai;subst ai;exact .fO rfl
   |j+3,ai=>simp at ai
end
end Go.aM
namespace Go.aM
open Go
section
variable {P:Program} {G:a7} {o:Oper} {s:aN} {E:Entry} {a:Act} {w w':World} {β:Nat→Value} {ro ro':Nat→Prop}
theorem c9.grow(h:c9 E G s a w β ro)(ox:w'.os=w.os)(oy:w'.tape=w.tape)(kB:w'.output=w.output)(bK:w.heap.size≤w'.heap.size)(hw: ∀b,b<w.heap.size→w'.heap[b]? =w.heap[b]?)
 (cc: ∀b,ro b→ro' b)(gi: ∀b,ro' b→ro b∨(w.heap.size≤b∧b<w'.heap.size)):c9 E G s a w' β ro':=by
 have aj: ∀b,ro b→w'.heap[b]? =w.heap[b]? :=fun b ae=>hw b (h.heap.lt b ae)
 refine⟨h.defers,h.size,fun i x hx=>(h.slot i x hx).keep aj cc (Nat.le_refl _) (fun _ t cs ah=>⟨rfl,t,cs,ah⟩) (fun _ z t _ es ah=>⟨rfl,z,t,es,ah⟩) (fun _ bF ah=>⟨rfl,bF,ah⟩),
  ⟨fun id h7 ah=>(h.heap.c7 id h7 ah).keep aj cc (Nat.le_refl _) bK rfl (fun ao b ae=>hw b ((h.heap.c7 id h7 ah).hl ao ae)) (fun _ t cs ah=>⟨rfl,t,cs,ah⟩) (fun _ z t _ es ah=>⟨rfl,z,t,es,ah⟩) (fun _ bF ah=>⟨rfl,bF,ah⟩),h.heap.inj,fun b ae an=>?_,fun b ae=>?_⟩,
  h.hV.keep aj cc,?_,h.base⟩
 ·rcases gi b ae with aa|⟨aa,_⟩
  ·exact h.heap.fz b aa an
  ·obtain⟨id,h7,ah,ao,hp⟩:=an
   have:=(h.heap.c7 id h7 ah).hl ao hp
   omega
 ·rcases gi b ae with aa|⟨_,aa⟩
  ·exact Nat.lt_of_lt_of_le (h.heap.lt b aa) bK
  ·exact aa
 ·have t:=h.trans
  refine⟨ox.trans t.os,oy.trans t.tape,kB.trans t.output,Nat.le_trans t.size bK,fun b ae hn=>(hw b (Nat.lt_of_lt_of_le ae t.size)).trans (t.frame b ae hn),fun b ae=>?_,fun b ae=>cc b (t.jR b ae),t.gN,t.dK,t.new,t.le⟩
  rcases gi b ae with aa|⟨aa,_⟩
  ·exact t.iR b aa
  ·exact .inr (.inr (Nat.le_trans t.size aa))
theorem eh.HT{t:TypeId}{n:Nat}{es:List (List bh)}(aX:vT P G o s t n es):eh P G o s (s.put o.dst (.au (.aP n es))):=by
 obtain⟨hn,h⟩:=aX
 intro E a w ⟨β,ro,af⟩ K Q hK
 obtain⟨v,xs,w',cU,jt,c2,gQ,fk⟩:=h E a w β ro af
 unfold Oper.wp
 rw[cU]
 have hw: ∀b,b<w.heap.size→w'.heap[b]? =w.heap[b]? :=fun b ae=>c2.block b ae (by simp)
 have dL:kA w' t n v es.length xs:=.HK jt
 have ah:=af.grow (ro':=fun b=>ro b∨cf v=some b) c2.os c2.tape c2.output c2.size hw (fun _ h=>.inl h) (fun b ae=>by
  rcases ae with h|h
  ·exact .inl h
  ·exact .inr ⟨gQ b h,(dL.hl h).1⟩)
 exact hK _ _ ⟨β,_,ah.put o.dst _ _ (.au _ _ (dL.HR hn (fun j x ai=>(fk j x ai).keep (fun b ae=>hw b (af.heap.lt b ae)) fun _ h=>.inl h) fun b ae=>.inr ae))⟩
mutual
theorem Pb(d:Nat): ∀(x:aE),fl x=true→pA d x=x∧gk 0 x=true
 | .au _,_=>⟨rfl,rfl⟩
 | .agg cs,h=>by
  have:=yQ d cs (by simpa[fl]using h)
  exact⟨by simp[pA,this.1],by simpa[gk]using this.2⟩
 | .tuple cs,h=>by
  have:=yQ d cs (by simpa[fl]using h)
  exact⟨by simp[pA,this.1],by simpa[gk]using this.2⟩
 | .fn f p q,h=>by
  simp only[fl,Bool.and_eq_true]at h
  have aa:=yQ d p h.1
  have ad:=yQ d q h.2
  exact⟨by simp[pA,aa.1,ad.1],by simp[gk,aa.2,ad.2]⟩
 | .top,_=>⟨rfl,rfl⟩
 | .ptr _ _,h=>by simp[fl]at h
 | .dF _ _,h=>by simp[fl]at h
 | .cH _ _ _,h=>by simp[fl]at h
 | .aP _,h=>by simp[fl]at h
 | .ref _,h=>by simp[fl]at h
theorem yQ(d:Nat): ∀(l:List aE),eP l=true→lG d l=l∧k7 0 l=true
 |[],_=>⟨rfl,rfl⟩
 |x::r,h=>by
  simp only[eP,Bool.and_eq_true]at h
  have aa:=Pb d x h.1
  have ad:=yQ d r h.2
  exact⟨by simp[lG,aa.1,ad.1],by simp[k7,aa.2,ad.2]⟩
end
theorem eh.YC{x:Operand}{xs:Array Operand}{ts:Array TypeId}(an:o.op= .call {callee:=.value x,args:=xs,argTypes:=ts}){f:FuncId}(hx:aJ G s x= .fn (.func f) [] [])
 (gl:nb P f=true){args:List aE}(h8:xs.toList.map (fun y=>mZ s.heap (aJ G s y))=args)(oE:eP args=true){r:aE}(hc:dO P G f args [] 0 fun hO bQ=>hO=r∧bQ=[])(af:fl r=true)(ae:s.base≤s.next):
 eh P G o s (s.put o.dst r):=by
 obtain⟨HU,YD⟩:=Pb s.next r af
 have:=eh.call (K:=0) an hx gl h8 oE hc (fun _ _ h=>h) YD rfl ae
 rw[HU]at this
 exact this
def iW(ks:List Nat)(l:List aE):List aE:=l.mapIdx fun i x=>if ks.contains i then x else .top
theorem yR(ks:List Nat)(l:List aE)(i:Nat):(iW ks l)[i]? =(l[i]?).map fun x=>if ks.contains i then x else .top:=by
 simp[iW]
theorem c9.mask(h:c9 E G s a w β ro)(ks:List Nat):c9 E G {s with cE:=iW ks s.cE} a w β ro:=by
 refine⟨h.defers,by simp[iW,h.size],fun i x hx=>?_,h.heap,h.hV,h.trans,h.base⟩
 simp only[yR]at hx
 cases hi:s.cE[i]? with
 |none=>simp[hi]at hx
 |some y=>
  simp only[hi,Option.map_some,Option.some.injEq]at hx
  split at hx
  ·subst hx;exact h.slot i y hi
  ·subst hx;exact .top _
def DStep(P:Program)(G:a7)(ops:Array Oper)(df:aN)(T:List aE)(o:Oper)(v:aE):Prop:=
 ∀s:aN,s.heap=df.heap→s.next=df.next→s.base=df.base→s.cE.length=T.length→(∀t∈o.looksAt ops,s.cE[t]? =T[t]?)→
  (dX ops s o=some true∧eh P G o s (s.put o.dst v))∨(dX ops s o=some false∧v= .tuple [])
theorem HV{ks:List Nat}{l eW:List aE}(hlen:l.length=eW.length)(h: ∀t∈ks,l[t]? =eW[t]?):iW ks l=iW ks eW:=by
 apply List.ext_getElem?
 intro i
 rw[yR,yR]
 by_cases hi:i∈ks
 ·rw[h i hi]
 ·have hc:ks.contains i=false:=by simpa using hi
  simp only[hc]
  by_cases ao:i<l.length
  ·rw[List.getElem?_eq_getElem ao,List.getElem?_eq_getElem (by omega)];rfl
  ·rw[List.getElem?_eq_none (by omega),List.getElem?_eq_none (by omega)]
theorem HW{ops:Array Oper}{ks:List Nat}(aj: ∀j b,o.guard=some (j,b)→∀d,mb ops j=some d→d∈ks):dX ops {s with cE:=iW ks s.cE} o=dX ops s o:=by
 unfold dX
 cases ah:o.guard with
 |none=>rfl
 |some HX=>
  obtain⟨j,b⟩:=HX;simp only
  cases hd:mb ops j with
  |none=>rfl
  |some d=>
   have hm:ks.contains d=true:=by simpa using aj j b ah d hd
   simp only[yR]
   cases ag:s.cE[d]? with
   |none=>simp
   |some x=>simp only[Option.map_some,hm,if_true]
theorem HY{ops:Array Oper}(j:Nat)(b:Bool)(ah:o.guard=some (j,b))(d:Nat)(hd:mb ops j=some d):d∈o.looksAt ops:=by
 unfold mb at hd
 simp[Oper.looksAt,ah,hd]
theorem DStep.val{ops:Array Oper}{df:aN}{T:List aE}{v:aE}(ah:dX ops ⟨iW (o.looksAt ops) T,df.heap,df.next,df.base⟩ o=some true)(av:qY P G o ⟨iW (o.looksAt ops) T,df.heap,df.next,df.base⟩=some v):DStep P G ops df T o v:=by
 intro s aa ad aq hlen bG
 have hm:=HV hlen bG
 have dN:({s with cE:=iW (o.looksAt ops) s.cE}:aN)=⟨iW (o.looksAt ops) T,df.heap,df.next,df.base⟩:=by rw[hm,←aa,←ad,←aq]
 refine .inl ⟨by rw[←HW (ks:=o.looksAt ops) HY,dN];exact ah,cV.step fun E a w β ro af=>?_⟩
 have dW:=af.mask (o.looksAt ops)
 rw[dN]at dW
 have:=HQ av E a w β ro dW
 simpa only[aa,ad]using this
theorem YE{ks:List Nat}{y:Operand}(az: ∀t,y= .tmp t→t∈ks):aJ G {s with cE:=iW ks s.cE} y=aJ G s y:=by
 cases y with
 |tmp t=>
  have hm:ks.contains t=true:=by simpa using az t rfl
  simp only[aJ,List.getD,yR]
  cases ag:s.cE[t]? with
  |none=>rfl
  |some x=>simp only[Option.map_some,hm,if_true]
 |_=>rfl
theorem DStep.of{ops:Array Oper}{df:aN}{T:List aE}{v:aE}(ah:dX ops ⟨iW (o.looksAt ops) T,df.heap,df.next,df.base⟩ o=some true)
 (h: ∀s:aN,s.heap=df.heap→s.next=df.next→s.base=df.base→(∀y:Operand,(∀t,y= .tmp t→t∈o.looksAt ops)→aJ G s y=aJ G ⟨iW (o.looksAt ops) T,df.heap,df.next,df.base⟩ y)→eh P G o s (s.put o.dst v)):DStep P G ops df T o v:=by
 intro s aa ad aq hlen bG
 have hm:=HV hlen bG
 have dN:({s with cE:=iW (o.looksAt ops) s.cE}:aN)=⟨iW (o.looksAt ops) T,df.heap,df.next,df.base⟩:=by rw[hm,←aa,←ad,←aq]
 refine .inl ⟨by rw[←HW (ks:=o.looksAt ops) HY,dN];exact ah,h s aa ad aq fun y az=>?_⟩
 rw[←dN]
 exact(YE az).symm
end
end Go.aM
namespace Go.aM
open Go
def vV(l:List Oper)(se:List aE)(pF:List aE)(E:Nat→Prop)(T:List aE):Prop:=
 T.length=pF.length∧∀t,t<pF.length→((∀j o,l[j]? =some o→E j→o.dst≠some t)→T[t]? =pF[t]?)∧(∀j o,l[j]? =some o→E j→o.dst=some t→T[t]? =se[j]?)
theorem vV.same{l:List Oper}{se pF T Pc:List aE}{E vW:Nat→Prop}(h:vV l se pF E T)(h':vV l se pF vW Pc)(t:Nat)(he: ∀j o,l[j]? =some o→o.dst=some t→(E j↔vW j)):T[t]? =Pc[t]? :=by
 by_cases aG:t<pF.length
 ·by_cases hx: ∃j o,l[j]? =some o∧E j∧o.dst=some t
  ·obtain⟨j,o,aa,ad,aq⟩:=hx
   rw[(h.2 t aG).2 j o aa ad aq,(h'.2 t aG).2 j o aa ((he j o aa aq).1 ad) aq]
  ·have aA: ∀j o,l[j]? =some o→E j→o.dst≠some t:=fun j o aa ad aq=>hx ⟨j,o,aa,ad,aq⟩
   have aW: ∀j o,l[j]? =some o→vW j→o.dst≠some t:=fun j o aa ad aq=>hx ⟨j,o,aa,(he j o aa aq).2 ad,aq⟩
   rw[(h.2 t aG).1 aA,(h'.2 t aG).1 aW]
 ·rw[List.getElem?_eq_none (by have:=h.1;omega),List.getElem?_eq_none (by have:=h'.1;omega)]
def vX(T:List aE)(dst:Option Nat)(v:aE):List aE:=
 match dst with
 |some d=>T.set d v
 |none=>T
theorem YF(T:List aE)(dst:Option Nat)(v:aE):(vX T dst v).length=T.length:=by
 cases dst<;>simp[vX]
theorem vV.put{l:List Oper}{se pF T:List aE}{E:Nat→Prop}(h:vV l se pF E T){i:Nat}{o:Oper}{v:aE}(hi:l[i]? =some o)(av:se[i]? =some v)
 (hd: ∀j p,l[j]? =some p→E j→p.dst≠none→p.dst≠o.dst){vW:Nat→Prop}(gd: ∀j,vW j↔E j∨j=i):vV l se pF vW (vX T o.dst v):=by
 refine⟨by rw[YF];exact h.1,fun t aG=>⟨fun hn=>?_,fun j p ai HZ ak=>?_⟩⟩
 ·have aa:=(h.2 t aG).1 fun j p ai HZ=>hn j p ai ((gd j).2 (.inl HZ))
  cases sf:o.dst with
  |none=>exact aa
  |some d=>
   have cb:d≠t:=fun e=>hn i o hi ((gd i).2 (.inr rfl)) (by rw[sf,e])
   simp only[vX];rw[List.getElem?_set_ne cb]
   exact aa
 ·rcases (gd j).1 HZ with aa|aa
  ·have ad:=(h.2 t aG).2 j p ai aa ak
   cases sf:o.dst with
   |none=>exact ad
   |some d=>
    have cb:d≠t:=fun e=>hd j p ai aa (by rw[ak];simp) (by rw[ak,sf,e])
    simp only[vX];rw[List.getElem?_set_ne cb]
    exact ad
  ·subst aa
   rw[hi]at ai;simp only[Option.some.injEq]at ai;subst ai;rw[ak];simp only[vX];rw[List.getElem?_set_self (by have:=h.1;omega),av]
section
variable {P:Program} {G:a7} {df:aN}
abbrev vY(ops:Array Oper)(df:aN)(T:List aE)(o:Oper):aN:=⟨iW (o.looksAt ops) T,df.heap,df.next,df.base⟩
theorem DStep.row{ops:Array Oper}{T:List aE}{o:Oper}{t n:Nat}{es:List (List bh)}(ah:dX ops (vY ops df T o) o=some true)(h:vT P G o (vY ops df T o) t n es):DStep P G ops df T o (.au (.aP n es)):=by
 intro s aa ad aq hlen bG
 have hm:=HV hlen bG
 have dN:({s with cE:=iW (o.looksAt ops) s.cE}:aN)=vY ops df T o:=by rw[hm,aa,ad,aq]
 refine .inl ⟨by rw[←HW (ks:=o.looksAt ops) HY,dN];exact ah,eh.HT (t:=t) ⟨h.1,fun E a w β ro af=>?_⟩⟩
 have dW:=af.mask (o.looksAt ops)
 rw[dN]at dW
 exact h.2 E a w β ro dW
theorem DStep.call{ops:Array Oper}{T:List aE}{o:Oper}{x:Operand}{xs:Array Operand}{ts:Array TypeId}(an:o.op= .call {callee:=.value x,args:=xs,argTypes:=ts})(ah:dX ops (vY ops df T o) o=some true){f:FuncId}
 (hx:aJ G (vY ops df T o) x= .fn (.func f) [] [])(gl:nb P f=true){args:List aE}(h8:xs.toList.map (fun y=>mZ df.heap (aJ G (vY ops df T o) y))=args)(oE:eP args=true){r:aE}
 (hc:dO P G f args [] 0 fun hO bQ=>hO=r∧bQ=[])(af:fl r=true)(ae:df.base≤df.next):DStep P G ops df T o r:=by
 refine DStep.of ah fun s aa ad aq az=>?_
 have Pd: ∀y:Operand,(y=x∨y∈xs)→∀t,y= .tmp t→t∈o.looksAt ops:=by
  intro y az t aG;subst aG;refine List.mem_append_left _ (List.mem_filterMap.2 ⟨.tmp t,?_,rfl⟩)
  rw[an];simp only[Op.operands,Call.operands]
  rcases az with h|h
  ·rw[←h];simp
  ·simp[h]
 refine eh.YC an (by rw[az x (Pd x (.inl rfl))];exact hx) gl (args:=args) ?_ oE hc af (by rw[ad,aq];exact ae)
 rw[←h8]
 apply List.map_congr_left
 intro y hm
 rw[aa,az y (Pd y (.inr (by simpa using hm)))]
theorem DStep.cast{ops:Array Oper}{T:List aE}{o:Oper}{v bx:aE}(h:DStep P G ops df T o v)(e:v=bx):DStep P G ops df T o bx:=e ▸ h
end
end Go.aM
namespace Go.aM
open Go
section
variable {P:Program} {G:a7} {o:Oper} {s:aN}
def vZ(P:Program)(t:TypeId):Option (TypeId × Nat × List Value):=
 match P.underlying t with
 |some (.slice e)=>match P.info? e,zeroCells P e with
  |some i,some zs=>if zs.all Value.oneCell'∧zs.length=i.size∧0<i.size then some (e,i.size,zs)else none
  |_,_=>none
 |_=>none
def pG(P:Program)(G:a7)(s:aN)(t:TypeId)(len:Nat)(parts:List (Nat × Operand)):Option (TypeId × Nat × List (List bh)):=
 match vZ P t with
 |some (e,n,zs)=>
  if len=0 then(if parts.isEmpty then some (e,n,[])else none)
  else if len*n≤16777216∧(parts.map fun p=>(p.1,aJ G s p.2)).all (fun p=>(cA p.2).all (eo s.heap))then
   match jW (fun i=>some (i*n,n)) ((List.replicate len (zs.map fun z=>aE.au (.v z))).flatten) (parts.map fun p=>(p.1,aJ G s p.2))with
   |some ds=>match iw ds with
    |some rs=>some (e,n,chunk n len rs)
    |none=>none
   |none=>none
  else none
 |none=>none
theorem H0{t:TypeId}{len:Nat}{parts:Array (Nat × Operand)}(an:o.op= .buildSlice t len parts){e n:Nat}{es:List (List bh)}(h:pG P G s t len parts.toList=some (e,n,es)):vT P G o s e n es:=by
 unfold pG at h
 split at h
 ·rename_i ax cR zs aG
  unfold vZ at aG
  split at aG
  ·rename_i aW hu
   split at aG
   ·rename_i i YG hi bu
    split at aG
    ·rename_i hc
     simp only[Option.some.injEq,Prod.mk.injEq]at aG;obtain⟨rfl,rfl,rfl⟩:=aG
     split at h
     ·rename_i hlen
      subst hlen
      split at h
      ·rename_i ak
       simp only[Option.some.injEq,Prod.mk.injEq]at h;obtain⟨rfl,rfl,rfl⟩:=h;refine⟨by simp,fun E a w β ro af=>⟨.slice (some ⟨w.heap.size,0,none⟩) 0 0,[],w.alloc (.cells #[] aW),?_,?_,World.grownBy_alloc w _ none,fun b ae=>by simp[cf]at ae,by simp⟩⟩
       ·have gv:parts= #[]:=by
         apply Array.ext';simpa using ak
        subst gv;simp[execOp,an,Instr.buildSlice,run_underlying hu,sizeOf,typeInfo,hi,Instr.fill,newRow,Sem.run_bind,Array.range_zero']
       ·exact World.ownsRow_lit w #[] 0 (Nat.zero_le _) (Nat.zero_le _) (by simp)
      ·cases h
     ·rename_i hlen
      split at h
      ·rename_i HH
       split at h
       ·rename_i ds hf
        split at h
        ·rename_i rs nH
         simp only[Option.some.injEq,Prod.mk.injEq]at h;obtain⟨rfl,rfl,rfl⟩:=h
         have YH:0<len*i.size:=Nat.mul_pos (Nat.pos_of_ne_zero hlen) hc.2.2
         exact Yk t len parts an hu (by simp[hi]) bu hc.1 hc.2.1 ⟨YH,HH.1⟩ rfl HH.2 hf nH
        ·cases h
       ·cases h
      ·cases h
    ·cases aG
   ·cases aG
  ·cases aG
 ·cases h
end
theorem YI{k:Nat}(h:k+1≤9223372036854775807):IntKind.i64.wrap ((k:Int)+1)=((k+1:Nat):Int):=by
 rw[c4 _ (by omega) (by omega)]
 rfl
end Go.aM
namespace Go.aM
open Go
def v7(m:Option Nat):aE→aE
 | .au (.v (.slice none 0 0))=>match m with
  |some n=>.au (.aP n [])
  |none=>.au (.v (.slice none 0 0))
 |x=>x
def q1:List (Option Nat)→List aE→List aE
 |m::ms,c::cs=>v7 m c::q1 ms cs
 |_,cs=>cs
def H2(m:List (Option Nat)):aE→aE
 | .agg cs=>.agg (q1 m cs)
 |x=>v7 (m.headD none) x
def aN.yS(s:aN)(k:Nat)(m:List (Option Nat)):aN:=
 {s with cE:=match s.cE[k]? with|some x=>s.cE.set k (H2 m x)|none=>s.cE}
theorem Pe{w:World}{ro:Nat→Prop}{σ:bA}{β:Nat→Value}{N:Nat}{m:Option Nat}{x:aE}{c:Value}(h:bs w ro σ β N x c):bs w ro σ β N (v7 m x) c:=by
 unfold v7
 split
 ·cases m with
  |none=>exact h
  |some n=>
   refine .au _ _ ?_
   cases h with
   |au _ _ h=>
    cases h;exact .aP n [] none 0 (fun _=>undef) (Nat.le_refl _) (Nat.zero_le _) (by simp) (by simp) (by simp)
 ·exact h
theorem YJ{m:List (Option Nat)}{cs:List aE}{j:Nat}{x:aE}(h:(q1 m cs)[j]? =some x): ∃y p,cs[j]? =some y∧x=v7 p y:=by
 induction m generalizing cs j with
 |nil=>exact⟨x,none,by simpa[q1]using h,by unfold v7;split<;>rfl⟩
 |cons a m aR=>
  cases cs with
  |nil=>simp[q1]at h
  |cons c cs=>
   cases j with
   |zero=>simp[q1]at h;exact⟨c,a,rfl,h.symm⟩
   |succ j=>simp only[q1,List.getElem?_cons_succ]at h⊢;exact aR h
theorem YK(m:List (Option Nat))(cs:List aE):(q1 m cs).length=cs.length:=by
 induction m generalizing cs with
 |nil=>rfl
 |cons a m aR=>cases cs<;>simp[q1,aR]
theorem YL{w:World}{ro:Nat→Prop}{σ:bA}{β:Nat→Value}{N:Nat}{m:List (Option Nat)}{x:aE}{c:Value}(h:bs w ro σ β N x c):bs w ro σ β N (H2 m x) c:=by
 unfold H2
 split
 ·cases h with
  |agg cs c aa ad=>
   refine .agg _ _ (by rw[aa,YK]) fun j y ai=>?_
   obtain⟨z,p,bu,rfl⟩:=YJ ai;exact Pe (ad j z bu)
 ·exact Pe h
theorem cO.yS{s bm:aN}(k:Nat)(m:List (Option Nat))(h:s.yS k m=bm):cO s bm:=by
 subst h
 intro E G a w ⟨β,ro,h⟩
 unfold aN.yS
 cases aj:s.cE[k]? with
 |none=>exact⟨β,ro,h⟩
 |some x=>
  refine⟨β,ro,h.defers,by simp[h.size],fun i y az=>?_,h.heap,h.hV,h.trans,h.base⟩
  rw[List.getElem?_set]at az
  split at az
  ·rename_i e
   subst e
   split at az
   ·simp only[Option.some.injEq]at az
    subst az;exact YL (h.slot k x aj)
   ·cases az
  ·exact h.slot i y az
end Go.aM
namespace Go.aM
open Go
theorem cO.YM{s bm:aN}(k e n:Nat)(aj:s.cE[k]? =some (.au (.v (.slice none 0 0))))(ae:s.base≤s.next)
 (h:({s with cE:=s.cE.set k (.aP s.next),heap:=(s.next,.row false e n [])::s.heap,next:=s.next+1}:aN)=bm):cO s bm:=by
 subst h
 intro E G a w ⟨β,ro,af⟩
 have k6:aF s.heap s.next=none:=by
  cases ah:aF s.heap s.next with
  |none=>rfl
  |some p=>have:=af.trans.new _ _ ah;omega
 have yT:=bs.val (af.slot k _ aj)
 have gi:=af.new (w':=w) s.next k6 ae (Nat.le_refl _) (.row false e n []) (.slice none 0 0) rfl rfl rfl (Nat.le_refl _) (fun _ _=>rfl) (fun c hc=>by simp[cf]at hc) rfl
  (.row e n [] [] (by rw[eA];exact⟨by simp,.inl ⟨⟨none,rfl,fun _ h=>(by cases h)⟩,rfl⟩⟩) (by simp) (by simp))
 refine⟨_,ro,gi.defers,by simpa using gi.size,fun i y az=>?_,gi.heap,gi.hV,gi.trans,gi.base⟩
 rw[List.getElem?_set]at az
 split at az
 ·rename_i aA
  subst aA
  split at az
  ·simp only[Option.some.injEq]at az
   subst az;refine .aP _ _ (Nat.lt_succ_self _) fun z bw cR ez _=>?_
   rw[yT];exact(eA _ _ _).symm
  ·cases az
 ·exact gi.slot i y az
end Go.aM
namespace Go.aM
open Go
def uq(σ:bA):aE→Option bh
 | .au x=>some x
 | .aP id=>match aF σ id with
  |some (.row _ _ n es)=>some (.aP n es)
  |_=>none
 | .ref id=>match aF σ id with
  |some (.b1 bF)=>bF.view
  |_=>none
 |_=>none
def yU(σ:bA):List aE→Option (List bh)
 |[]=>some []
 |x::r=>match uq σ x,yU σ r with
  |some y,some l=>some (y::l)
  |_,_=>none
mutual
def kG(σ:bA):aE→aE
 | .aP id=>match aF σ id with
  |some (.row _ _ n es)=>.au (.aP n es)
  |_=>.aP id
 | .ptr id off=>match aF σ id with
  |some (.box _ cs)=>(match yU σ (cs.drop off)with
   |some l=>.au (.ptr l)
   |none=>.ptr id off)
  |_=>.ptr id off
 | .agg cs=>.agg (hI σ cs)
 | .tuple cs=>.tuple (hI σ cs)
 | .fn f p q=>.fn f (hI σ p) (hI σ q)
 | .au x=>.au x
 | .cH id i off=>.cH id i off
 | .dF id n=>.dF id n
 | .ref id=>match aF σ id with
  |some (.b1 bF)=>(match bF.view with
   |some x=>.au x
   |none=>.ref id)
  |_=>.ref id
 | .top=>.top
def hI(σ:bA):List aE→List aE
 |[]=>[]
 |x::r=>kG σ x::hI σ r
end
theorem ur(σ:bA): ∀(l:List aE),(hI σ l).length=l.length
 |[]=>rfl
 |x::r=>by simp[hI,ur σ r]
theorem uu(σ:bA): ∀{l:List aE} {j:Nat} {x:aE},(hI σ l)[j]? =some x→∃y,l[j]? =some y∧x=kG σ y
 |[],j,x,h=>by simp[hI]at h
 |y::r,j,x,h=>by
  cases j with
  |zero=>simp[hI]at h;exact⟨y,by simp,h.symm⟩
  |succ j=>simp[hI]at h;simpa using uu σ h
theorem Pf(σ:bA): ∀{l:List aE} {m:List bh},yU σ l=some m→∀{j:Nat} {x:bh},m[j]? =some x→∃y,l[j]? =some y∧uq σ y=some x
 |[],m,h,j,x,ai=>by simp[yU]at h;subst h;simp at ai
 |y::r,m,h,j,x,ai=>by
  simp only[yU]at h
  split at h
  ·rename_i z l aa ad
   simp only[Option.some.injEq]at h;subst h
   cases j with
   |zero=>simp at ai;subst ai;exact⟨y,rfl,aa⟩
   |succ j=>simp at ai;simpa using Pf σ ad ai
  ·cases h
abbrev uv(ro:Nat→Prop)(σ:bA)(β:Nat→Value):Nat→Prop:=fun b=>ro b∨Own σ β b
theorem Pg{w:World}{ro:Nat→Prop}{σ:bA}{β:Nat→Value}{N id:Nat}(aX:ho w ro σ β N){z:Bool}{t:TypeId}{n:Nat}{es:List (List bh)}(ah:aF σ id=some (.row z t n es)):dt w (uv ro σ β) (.aP n es) (β id):=by
 have an:=aX.c7 id _ ah
 cases an with
 |row t n es xs aa ad aq=>exact aa.HR ad (fun j x ai=>(aq j x ai).keep (fun _ _=>rfl) fun _ h=>.inl h) fun b ae=>.inr ⟨id,_,ah,rfl,ae⟩
 |fV t n es aa=>exact aa.keep (fun _ _=>rfl) fun _ h=>.inl h
theorem Ph{w:World}{ro:Nat→Prop}{σ:bA}{β:Nat→Value}{N id:Nat}(aX:ho w ro σ β N){bF:BQ}(ah:aF σ id=some (.b1 bF)){au:bh}(av:bF.view=some au):dt w (uv ro σ β) au (β id):=by
 have an:=aX.c7 id _ ah
 cases an with
 |b1 _ b o aa ad aq=>exact bF.XQ au av w ro _ _ o b aq aa ad (fun _ h=>.inl h) (.inr ⟨id,_,ah,rfl,aa⟩)
theorem YN{w:World}{ro:Nat→Prop}{σ:bA}{β:Nat→Value}{N:Nat}(aX:ho w ro σ β N){x:aE}{c:Value}{y:bh}(h:bs w ro σ β N x c)(az:uq σ x=some y):dt w (uv ro σ β) y c:=by
 cases h with
 |au x c hx=>
  simp only[uq,Option.some.injEq]at az;subst az;exact hx.keep (fun _ _=>rfl) fun _ h=>.inl h
 |aP id c ao ak=>
  simp only[uq]at az
  split at az
  ·rename_i z t n es ah
   simp only[Option.some.injEq]at az;subst az;rw[ak z t n es ah];exact Pg aX ah
  ·cases az
 |ref id c ao ak=>
  simp only[uq]at az
  split at az
  ·rename_i bF ah
   rw[ak bF ah];exact Ph aX ah az
  ·cases az
 |_=>cases az
theorem H3{w:World}{ro:Nat→Prop}{σ:bA}{β:Nat→Value}{N:Nat}(aX:ho w ro σ β N){x:aE}{c:Value}(h:bs w ro σ β N x c):bs w (uv ro σ β) σ β N (kG σ x) c:=by
 induction h with
 |aP id c ao ak=>
  simp only[kG]
  split
  ·rename_i z t n es ah
   rw[ak z t n es ah];exact .au _ _ (Pg aX ah)
  ·exact .aP id c ao ak
 |ptr id off c ao ak=>
  simp only[kG]
  split
  ·rename_i t cs ah
   split
   ·rename_i l H4
    obtain⟨b,ae,rfl⟩:=ak t cs ah
    have an:=aX.c7 id _ ah
    cases an with
    |box t cs b' arr aA aW cr eD=>
     rw[ae]at aA;simp only[Value.pointer.injEq,Option.some.injEq,Addr.mk.injEq,and_true]at aA;subst aA
     have at_: ∀j x,l[j]? =some x→∃y,cs[off+j]? =some y∧uq σ y=some x:=fun j x ai=>by
      obtain⟨y,aa,ad⟩:=Pf σ H4 ai;rw[List.getElem?_drop]at aa
      exact⟨y,aa,ad⟩
     refine .au _ _ (.ptr l _ (fun j=>arr.getD (off+j) undef) (fun j x ai=>?_) fun j x ai=>?_)
     ·obtain⟨y,aa,_⟩:=at_ j x ai
      refine⟨.inr ⟨id,_,ah,rfl,by rw[ae];rfl⟩,?_⟩
      have bB:off+j<arr.size:=by rw[cr];exact(List.getElem?_eq_some_iff.1 aa).1
      rw[addLit,cell_of_row w b (off+j) arr t (0,0) aW];simp[bB]
     ·obtain⟨y,aa,ad⟩:=at_ j x ai
      exact YN aX (eD _ y aa) ad
   ·exact .ptr id off c ao ak
  ·exact .ptr id off c ao ak
 |au x c h=>exact .au x c (h.keep (fun _ _=>rfl) fun _ h=>.inl h)
 |agg cs c aa _ aR=>
  refine .agg _ c (by rw[ur];exact aa) fun j x ai=>?_
  obtain⟨y,az,rfl⟩:=uu σ ai;exact aR j y az
 |tuple cs c aa _ aR=>
  refine .tuple _ c (by rw[ur];exact aa) fun j x ai=>?_
  obtain⟨y,az,rfl⟩:=uu σ ai;exact aR j y az
 |cH id i off c aa ad=>exact .cH id i off c aa ad
 |dF id n c aa ad=>exact .dF id n c aa ad
 |fn f p q c d aa ad _ _ gO gP=>
  refine .fn f _ _ c d (by rw[ur];exact aa) (by rw[ur];exact ad) (fun j x ai=>?_) (fun j x ai=>?_)
  ·obtain⟨y,az,rfl⟩:=uu σ ai
   exact gO j y az
  ·obtain⟨y,az,rfl⟩:=uu σ ai
   exact gP j y az
 |ref id c ao ak=>
  simp only[kG]
  split
  ·rename_i bF ah
   split
   ·rename_i au av
    rw[ak bF ah];exact .au _ _ (Ph aX ah av)
   ·exact .ref id c ao ak
  ·exact .ref id c ao ak
 |top c=>exact .top c
mutual
def jY:aE→Bool
 | .au (.v _)=>true
 | .agg cs=>ng cs
 | .tuple cs=>ng cs
 |_=>false
def ng:List aE→Bool
 |[]=>true
 |x::r=>jY x&&ng r
end
theorem Cf: ∀{cs:List aE},ng cs=true→∀{j:Nat} {x:aE},cs[j]? =some x→jY x=true
 |[],_,j,x,h=>by simp at h
 |y::r,ae,j,x,h=>by
  simp only[ng,Bool.and_eq_true]at ae
  cases j with
  |zero=>simp at h;subst h;exact ae.1
  |succ j=>simp at h;exact Cf ae.2 h
theorem Cg{w w':World}{ro ro':Nat→Prop}{σ bQ:bA}{β yC:Nat→Value}{N M:Nat}{x:aE}{c:Value}(h:bs w ro σ β N x c)(ak:jY x=true):bs w' ro' bQ yC M x c:=by
 induction h with
 |au x c h=>
  cases h with
  |v _ hx=>exact .au _ _ (.v _ hx)
  |ptr=>simp[jY]at ak
  |aP=>simp[jY]at ak
  |mp=>simp[jY]at ak
  |li=>simp[jY]at ak
 |agg cs c aa _ aR=>
  simp only[jY]at ak;exact .agg cs c aa fun j x ai=>aR j x ai (Cf ak ai)
 |tuple cs c aa _ aR=>
  simp only[jY]at ak;exact .tuple cs c aa fun j x ai=>aR j x ai (Cf ak ai)
 |_=>simp[jY]at ak
section
variable {P:Program} {G:a7} {s:aN}
theorem eh.H5{o:Oper}{x:Operand}{xs:Array Operand}{ts:Array TypeId}(an:o.op= .call {callee:=.value x,args:=xs,argTypes:=ts}){f:FuncId}{p q:List aE}(hx:aJ G s x= .fn (.func f) p q)
 (gl:nb P f=true){args:List aE}(h8:hI s.heap (p++xs.toList.map (aJ G s)++q)=args)(oE:eP args=true){r:aE}(hc:dO P G f args [] 0 fun hO uw=>hO=r∧uw=[])(hsc:jY r=true):
 eh P G o s (s.put o.dst r):=by
 intro E a w ⟨β,ro,h⟩ Yc Yd HA
 have jv:=h.eval x
 rw[hx]at jv
 generalize he:a.eval x=B4 at jv
 cases jv with
 |fn _ _ _ c d aa ad ak aL=>
  unfold Oper.wp;simp only[execOp,an,resolve,he,Deferred.ofValue,Sem.run_bind,Sem.run_pure,Result.andThen_ok,invoke];rw[B2 gl]
  have nN: ∀b,Own s.heap β b→b<w.heap.size:=fun b ⟨k,p,aj,ak,bc⟩=>(h.heap.c7 k p aj).hl ak bc
  have hlen:args.length=p.length+xs.size+q.length:=by rw[←h8,ur];simp[Nat.add_assoc]
  have dU: ∀i y,(p++xs.toList.map (aJ G s)++q)[i]? =some y→bs w ro s.heap β s.next y ((c++xs.map a.eval++d).getD i undef):=fun i y az=>by
   rw[Array.getD_eq_getD_getElem?]
   rcases Nat.lt_or_ge i (p.length+xs.size)with hi|hi
   ·rw[List.getElem?_append_left (by simpa using hi)]at az
    rw[Array.getElem?_append_left (by simpa[aa]using hi)]
    rcases Nat.lt_or_ge i p.length with iK|iK
    ·rw[List.getElem?_append_left iK]at az
     rw[Array.getElem?_append_left (by omega),←Array.getD_eq_getD_getElem?]
     exact ak i y az
    ·rw[List.getElem?_append_right iK,List.getElem?_map]at az
     rw[Array.getElem?_append_right (by omega),aa]
     cases bu:xs.toList[i-p.length]? with
     |none=>simp[bu]at az
     |some z=>
      simp only[bu,Option.map_some,Option.some.injEq]at az;subst az
      have ux:xs[i-p.length]? =some z:=by simpa using bu
      simp only[Array.getElem?_map,ux,Option.map_some,Option.getD_some]
      exact h.eval z
   ·rw[List.getElem?_append_right (by simpa using hi)]at az
    rw[Array.getElem?_append_right (by simpa[aa]using hi),←Array.getD_eq_getD_getElem?]
    have:=aL _ y az
    simpa[aa]using this
  have gR:=hc w β (uv ro s.heap β) (c++xs.map a.eval++d) (by simp only[Array.size_append,Array.size_map];omega) (fun i y az=>by
   rw[←h8]at az;obtain⟨z,bu,rfl⟩:=uu _ az
   exact nP (H3 h.heap (dU i z bu)) (na oE (by rw[←h8];exact az))) ⟨by simp[aF],by simp[aF],fun b _ ⟨_,_,ah,_⟩=>by simp[aF]at ah,fun b ae=>ae.elim (h.heap.lt b) (nN b)⟩
   (h.hV.keep (fun _ _=>rfl) fun _ h=>.inl h) (by simp[aF])
  refine Calls.mono gR fun e w' aL=>?_
  obtain⟨v,ew,fm,dV,ro',cR,rfl,⟨rfl,rfl⟩,dp,ht,ct⟩:=aL
  have jN: ∀b,¬Own ([]:bA) β b:=fun b ⟨_,_,ah,_⟩=>by simp[aF]at ah
  have lH: ∀b,b<w.heap.size→w'.heap[b]? =w.heap[b]? :=fun b ae=>ct.frame b ae (jN b)
  have ah:=h.grow (w':=w') (ro':=ro) ct.os ct.tape ct.output ct.size lH (fun _ h=>h) (fun _ h=>.inl h)
  exact HA _ _ ⟨β,ro,ah.put o.dst _ _ (Cg dp hsc)⟩
theorem YO{o:Oper}{f:FuncId}{p q:Array Operand}(an:o.op= .makeFunc (.func f) p q):cV P G o s (.fn (.func f) (p.toList.map (aJ G s)) (q.toList.map (aJ G s))):=
 fun _ a w β ro af=>by
  refine⟨.func (.func f) (p.map a.eval) (q.map a.eval),by simp[execOp,an,Instr.makeFunc],.fn _ _ _ _ _ (by simp) (by simp) (fun j x ai=>?_) (fun j x ai=>?_)⟩<;>
  ·rw[List.getElem?_map]at ai
   rw[Array.getD_eq_getD_getElem?,Array.getElem?_map]
   simp only[Array.getElem?_toList]at ai
   obtain⟨z,bu,rfl⟩:=Option.map_eq_some_iff.1 ai;simp only[bu,Option.map_some,Option.getD_some];exact af.eval z
end
end Go.aM
namespace Go.aM
open Go
inductive Hint (P:Program) (G:a7):Type 1 where
 |run (n:Nat)
 |cast (u v:aE) (h:u=v)
 |idx {α:Type} (C:α→List bh) (l:List α) (n j:Nat) (e:α) (h:l[j]? =some e)
 |Pj (b:ByteArray) (j:Nat) (u:UInt8) (h:b.data.toList[j]? =some u)
 |len {α:Type} (C:α→List bh) (l:List α) (n:Nat)
 |call (f:FuncId) (args:List aE) (r:aE) (bQ:bA) (K:Nat) (h:dO P G f args [] 0 fun hO uw=>hO=r∧uw=bQ)
 |take {α:Type} (C:α→List bh) (l:List α) (n k:Nat) (h:k≤l.length)
 |Pk {α:Type} (C:α→List bh) (l:List α) (e n:Nat)
 |app {α:Type} (C:α→List bh) (l m:List α) (id e n bytes:Nat) (h:l.length+m.length≤maxLen∧(l.length+m.length)*bytes≤140737488355328)
 |Pl (mx:Bool) (a b:Int)
 |lit (e n:Nat) (es:List (List bh))
 |row (e n:Nat) (es:List (List bh))
 |Pm (b:ByteArray)
 |yS (k:Nat) (m:List (Option Nat))
 |yO (id:Nat)
 |Pn {α:Type} (C:α→List bh) (l:List α) (id n j:Nat) (h:j<l.length)
 |Po {α:Type} (C:α→List bh) (l:List α) (id n:Nat)
 |Pp {α:Type} (C:α→List bh) (l:List α) (id n j off k:Nat) (e:α) (h:l[j]? =some e)
 |Pq {α:Type} (C:α→List bh) (l:List α) (id n j off:Nat) (e:α) (h:l[j]? =some e)
 |mk {α:Type} (C:α→List bh) (d:α) (m c e n bytes:Nat) (h:m≤c∧c≤maxLen∧bytes*c≤281474976710656)
 |Pr (j:Nat)
 |Ps {α:Type} (C:α→List bh) (l:List α) (n:Nat) (lo hi:Option Nat) (aa:lo.getD 0≤hi.getD l.length) (ad:hi.getD l.length≤l.length)
 |Pt (b:ByteArray) (lo hi:Option Nat) (aa:lo.getD 0≤hi.getD b.size) (ad:hi.getD b.size≤b.size)
 |slot (k:Nat) (u v:aE) (h:u=v)
 |H6 (k e n:Nat)
 |Pu {α:Type} (C:α→List bh) (l:List α) (id n j off:Nat) (e:α) (h:l[j]? =some e)
 |Pv {α:Type} (C:α→List bh) (l:List α) (id n j off:Nat) (e ax:α) (h:l[j]? =some e)
 |Pw
 |H5 (f:FuncId) (p q args:List aE) (r:aE) (h:dO P G f args [] 0 fun hO uw=>hO=r∧uw=[])
def yV:bh→bh
 | .aP _ []=>.v (.slice none 0 0)
 | .li _ []=>.v (.slice none 0 0)
 |x=>x
theorem YP{w:World}{ro:Nat→Prop}{x:bh}{v:Value}(h:yV x= .v v)(av:v.oneCell'=true):dt w ro x v:=by
 unfold yV at h
 split at h
 ·rename_i n
  simp only[bh.v.injEq]at h;subst h;exact .aP n [] none 0 (fun _=>undef) (Nat.le_refl _) (Nat.zero_le _) (by simp) (by simp) (by simp)
 ·rename_i i
  simp only[bh.v.injEq]at h;subst h;exact .li i [] _ (.aP (c8 i) [] none 0 (fun _=>undef) (Nat.le_refl _) (Nat.zero_le _) (by simp) (by simp) (by simp))
 ·subst h
  exact .v _ av
section
variable {P:Program} {G:a7} {o:Oper} {s:aN}
theorem YQ{α:Type}(C:α→List bh)(d:α)(m c:Nat){t:TypeId}{x y:Operand}(an:o.op= .makeSlice t x y){e n bytes:Nat}(aG:pB P t=some (e,n,bytes)){zs:List Value}(bu:zeroCells P e=some zs)(r7:zs.all Value.oneCell'=true)
 (hd:zs.map bh.v=(C d).map yV)(hx:aJ G s x=iy (m:Int))(az:aJ G s y=iy (c:Int))(bK:m≤c∧c≤maxLen∧bytes*c≤281474976710656):
 vT P G o s e n ((List.replicate m d).map C):=by
 obtain⟨i,z,hu,hi,Px,ia,iV,oG,hn⟩:=Ca aG
 obtain⟨h6,_,oz,yG,gE,ux⟩:=yv (P:=P) bu default
 have Py:z.cells=zs.toArray:=by
  rw[hi]at gE;simp only[Option.some.injEq]at gE;subst gE;rw[Px]at ux;simp only[Option.some.injEq]at ux;subst ux;exact oz
 have mg:zs.length=n:=by rw[←oG,Py];simp
 have nR:(C d).length=n:=by rw[←mg];have:=congrArg List.length hd;simpa using this.symm
 have nM: ∀q∈(List.replicate m d).map C,q.length=n:=by
  intro q aL;rw[List.mem_map]at aL;obtain⟨u,hu,rfl⟩:=aL;rw[List.mem_replicate]at hu;rw[hu.2];exact nR
 refine⟨nM,fun E a w β ro af=>?_⟩
 have YR:(c:Int)≤9223372036854775807:=by
  have h:=bK.2.1
  simp only[maxLen]at h;omega
 have yN:(i.bytes:Int)*(c:Int)≤281474976710656:=by
  have h:((i.bytes*c:Nat):Int)≤281474976710656:=by rw[iV];have:=bK.2.2;omega
  rwa[Int.natCast_mul]at h
 have cU:=run_make (P:=P) w t e i z hu hi Px .i64 .i64 (m:Int) (c:Int) (by omega) (by have:=bK.1;omega) yN YR
 simp only[Int.toNat_natCast,ia]at cU
 refine⟨.slice (some ⟨w.heap.size,0,none⟩) m c,(madeCells z.cells (c*n)).toList.take (m*n),_,by simp only[execOp,an,af.ep hx,af.ep az,Sem.run_bind,cU,Result.andThen_ok,Sem.run_pure],⟨?_,.inr ⟨w.heap.size,c,madeCells z.cells (c*n),by rw[List.length_map,List.length_replicate],Nat.zero_le _,heap_alloc_new w _,by rw[List.length_map,List.length_replicate];exact bK.1,bK.2.1,size_madeCells _ _,by rw[List.length_map,List.length_replicate]⟩⟩,World.grownBy_alloc w _ none,fun b bc=>?_,fun j x ai=>?_⟩
 ·rw[List.length_take,Array.length_toList,size_madeCells,List.length_map,List.length_replicate,Nat.min_eq_left (Nat.mul_le_mul_right _ bK.1)]
 ·simp only[cf]at bc
  split at bc
  ·cases bc
  ·simp at bc;omega
 ·have dT:j<m*n:=by
   have:=(List.getElem?_eq_some_iff.1 ai).1
   rwa[jS nM,List.length_map,List.length_replicate]at this
  have hm:j=(j/ n)*n+j%n:=by rw[Nat.mul_comm];exact(Nat.div_add_mod j n).symm
  have nQ:j%n<n:=Nat.mod_lt _ hn
  have YS:j/ n<m:=by rw[Nat.div_lt_iff_lt_mul hn];exact dT
  rw[hm,qH nM (i:=j/ n) (e:=C d) (by simp[YS]) (j%n) nQ]at ai
  have aq:j%n<zs.length:=by omega
  have yu:j<c*n:=Nat.lt_of_lt_of_le dT (Nat.mul_le_mul_right _ bK.1)
  have aA:((madeCells z.cells (c*n)).toList.take (m*n)).getD j undef=zs[j%n]:=by
   simp[List.getD,dT,madeCells,Py,yu,mg,List.getElem?_eq_getElem aq]
  rw[aA]
  have Pz:=congrArg (·[j%n]?) hd
  simp only[List.getElem?_map,ai,List.getElem?_eq_getElem aq,Option.map_some,Option.some.injEq]at Pz
  refine YP Pz.symm ?_
  rw[List.all_eq_true]at r7;exact r7 _ (List.getElem_mem aq)
end
section
variable {P:Program} {G:a7} {o:Oper} {s:aN}
theorem PA(j:Nat){t:TypeId}{x i:Operand}(an:o.op= .index t x i){len e:Nat}(hu:P.underlying t=some (.array len e))(hsc:scalar P e=true)(bK:(P.info? e).map (·.size)=some 1)(hi:aJ G s i=iy (j:Int)){cs:List aE}(hx:aJ G s x= .agg cs){v:aE}(av:cs[j]? =some v)(ai:j<len):cV P G o s v:=
 fun _ a w β ro af=>by
  have h:=af.eval x
  rw[hx]at h;generalize he:a.eval x=c at h
  cases h with
  |agg _ c ag hc=>
   have bB:j<c.size:=by have:=(List.getElem?_eq_some_iff.1 av).1;omega
   have yJ:(sizeOf e).run P w= .ok 1 w:=by
    cases hi:P.info? e with
    |none=>simp[hi]at bK
    |some i=>simp[hi]at bK;simp[sizeOf,typeInfo,hi,bK]
   refine⟨c[j],?_,by simpa[bB]using hc _ v av⟩
   simp[execOp,an,he,af.ep hi,Instr.index,asIntOf,run_underlying hu,yJ,part,yo hsc,bB,ai]
end
section
variable {P:Program} {G:a7}
def Ch:Hint P G→aE
 | .run _=>.top
 | .cast u _ _=>u
 | .idx C l n j _ _=>.tuple [.au (.aP n (l.map C)),iy (j:Int)]
 | .Pj b j _ _=>.tuple [vs b,iy (j:Int)]
 | .len C l n=>.au (.aP n (l.map C))
 | .call f args _ _ _ _=>.tuple (.fn (.func f) [] []::args)
 | .take C l n k _=>.tuple [.au (.aP n (l.map C)),iy (k:Int)]
 | .Pk C l _ n=>.au (.aP n (l.map C))
 | .app C l m id _ n _ _=>.tuple [.aP id,.au (.aP n (l.map C)),.au (.aP n (m.map C))]
 | .Pl _ a b=>.tuple [iy a,iy b]
 | .lit _ n es=>.au (.aP n es)
 | .row _ n es=>.au (.aP n es)
 | .Pm b=>vs b
 | .yS _ _=>.top
 | .yO _=>.top
 | .Pn C l id n j _=>.tuple [.aP id,.au (.aP n (l.map C)),iy (j:Int)]
 | .Po C l id n=>.tuple [.aP id,.au (.aP n (l.map C))]
 | .Pp C l id n j off _ _ _=>.tuple [.cH id j off,.au (.aP n (l.map C))]
 | .Pq C l id n j off _ _=>.tuple [.cH id j off,.au (.aP n (l.map C))]
 | .mk C d m c _ _ _ _=>.tuple [iy (m:Int),iy (c:Int),.au (.ptr ((C d).map yV))]
 | .Pr j=>iy (j:Int)
 | .Ps C l n lo hi _ _=>.tuple [.au (.aP n (l.map C)),(match lo with|some k=>iy (k:Int)|none=>.top),(match hi with|some k=>iy (k:Int)|none=>.top)]
 | .Pt b lo hi _ _=>.tuple [vs b,(match lo with|some k=>iy (k:Int)|none=>.top),(match hi with|some k=>iy (k:Int)|none=>.top)]
 | .slot _ u _ _=>u
 | .H6 _ _ _=>.top
 | .Pu C l id n j off _ _=>.tuple [.cH id j off,.au (.aP n (l.map C))]
 | .Pv C l id n j off _ ax _=>.tuple [.cH id j off,.au (.aP n (l.map C)),.au (.ptr (C ax))]
 | .Pw=>.top
 | .H5 f p q args _ _=>.tuple (.fn (.func f) p q::args)
def rowOf(σ:bA)(id n:Nat):Option (TypeId × List (List bh)):=
 match aF σ id with
 |some (.row false t m es)=>match Nat.beq m n with
  |true=>some (t,es)
  |false=>none
 |_=>none
def pH(P:Program)(G:a7)(o:Oper)(s:aN):Hint P G→Option (aE × aN)
 | .cast _ v _=>match qY P G o s with
  |some a=>some (a,s.put o.dst v)
  |none=>none
 | .idx C _ n _ e _=>match o.op with
  | .indexAddr t x i=>match jV P t with
   |some cR=>match Nat.beq cR n with
    |true=>some (.tuple [aJ G s x,aJ G s i],s.put o.dst (.au (.ptr (C e))))
    |false=>none
   |none=>none
  |_=>none
 | .Pj _ _ u _=>match o.op with
  | .index t x i=>match isStr P t with
   |true=>some (.tuple [aJ G s x,aJ G s i],s.put o.dst (.au (.v (.int .u8 (u.toNat:Int)))))
   |false=>none
  |_=>none
 | .len _ l _=>match o.op with
  | .call c=>match c.callee,c.args.toList,c.argTypes.toList with
   | .builtin .len,[x],[t]=>match isSlice P t with
    |true=>some (aJ G s x,s.put o.dst (iy (l.length:Int)))
    |false=>none
   |_,_,_=>none
  |_=>none
 | .call f _ r bQ K _=>match o.op with
  | .call c=>match c.callee with
   | .value x=>match nb P f&&(eP (c.args.toList.map fun y=>mZ s.heap (aJ G s y))&&(gk K r&&(k8 K bQ&&Nat.ble s.base s.next)))with
    |true=>some (.tuple (aJ G s x::c.args.toList.map fun y=>mZ s.heap (aJ G s y)),{s with heap:=k9 s.next bQ++s.heap,next:=s.next+K}.put o.dst (pA s.next r))
    |false=>none
   |_=>none
  |_=>none
 | .take C l n k _=>match o.op with
  | .slice t x none (some y) none=>match jV P t with
   |some cR=>match Nat.beq cR n with
    |true=>some (.tuple [aJ G s x,aJ G s y],s.put o.dst (.au (.aP n ((l.take k).map C))))
    |false=>none
   |none=>none
  |_=>none
 | .Pk _ _ _ _=>none
 | .app C l m id e n bytes _=>match o.op with
  | .call c=>match c.callee,c.args.toList,c.argTypes.toList with
   | .builtin .append,[x,y],[t,bw]=>match pB P t with
    |some (ax,cR,b')=>match Nat.beq t bw&&(Nat.beq ax e&&(Nat.beq cR n&&(Nat.beq b' bytes&&(Nat.ble s.base id&&Nat.blt id s.next)))),rowOf s.heap id n with
     |true,some (aW,es)=>match Nat.beq aW e with
      |true=>some (.tuple [aJ G s x,.au (.aP n es),aJ G s y],aN.put ⟨ej id s.cE,(id,.row false e n ((l++m).map C))::dv id s.heap,s.next,s.base⟩ o.dst (.aP id))
      |false=>none
     |_,_=>none
    |none=>none
   |_,_,_=>none
  |_=>none
 | .Pl mx a b=>match o.op with
  | .call c=>match c.callee,c.args.toList,mx with
   | .builtin .min,[x,y],false=>some (.tuple [aJ G s x,aJ G s y],s.put o.dst (iy (if b<a then b else a)))
   | .builtin .max,[x,y],true=>some (.tuple [aJ G s x,aJ G s y],s.put o.dst (iy (if b>a then b else a)))
   |_,_,_=>none
  |_=>none
 | .lit e n es=>match o.op with
  | .buildSlice t len parts=>match pG P G s t len parts.toList with
   |some (ax,cR,ez)=>match Nat.beq ax e&&Nat.beq cR n with
    |true=>some (.au (.aP n ez),s.put o.dst (.au (.aP n es)))
    |false=>none
   |none=>none
  |_=>none
 | .row e n es=>match o.op with
  | .buildSlice t len parts=>match pG P G s t len parts.toList with
   |some (ax,cR,ez)=>match Nat.beq ax e&&(Nat.beq cR n&&Nat.ble s.base s.next)with
    |true=>some (.au (.aP n ez),{s with heap:=(s.next,.row false e n es)::s.heap,next:=s.next+1}.put o.dst (.aP s.next))
    |false=>none
   |none=>none
  |_=>none
 | .Pm b=>match o.op with
  | .range t x=>match isStr P t&&Nat.ble s.base s.next with
   |true=>some (aJ G s x,{s with heap:=(s.next,.b1 (pD b 0))::s.heap,next:=s.next+1}.put o.dst (.ref s.next))
   |false=>none
  |_=>none
 | .Pn _ _ id n j _=>match o.op with
  | .indexAddr t x i=>match jV P t,rowOf s.heap id n with
   |some cR,some (_,es)=>match Nat.beq cR n with
    |true=>some (.tuple [aJ G s x,.au (.aP n es),aJ G s i],s.put o.dst (.cH id j 0))
    |false=>none
   |_,_=>none
  |_=>none
 | .Po _ l id n=>match o.op with
  | .call c=>match c.callee,c.args.toList,c.argTypes.toList with
   | .builtin .len,[x],[t]=>match isSlice P t,rowOf s.heap id n with
    |true,some (_,es)=>some (.tuple [aJ G s x,.au (.aP n es)],s.put o.dst (iy (l.length:Int)))
    |_,_=>none
   |_,_,_=>none
  |_=>none
 | .Pp C _ id n _ off k e _=>match o.op with
  | .load t x=>match l8 P t,rowOf s.heap id n with
   |some br,some (_,es)=>match Nat.beq br k&&(Nat.ble 1 k&&Nat.ble k ((C e).drop off).length)with
    |true=>some (.tuple [aJ G s x,.au (.aP n es)],s.put o.dst (.agg ((((C e).drop off).map aE.au).take k)))
    |false=>none
   |_,_=>none
  |_=>none
 | .Pq C _ id n _ off e _=>match o.op with
  | .load t x=>match scalar P t,rowOf s.heap id n,(C e).drop off with
   |true,some (_,es),v::_=>some (.tuple [aJ G s x,.au (.aP n es)],s.put o.dst (.au v))
   |_,_,_=>none
  |_=>none
 | .Ps C l n lo hi _ _=>match o.op with
  | .slice t x yW yX none=>match jV P t,yW.isSome==lo.isSome&&yX.isSome==hi.isSome with
   |some cR,true=>match Nat.beq cR n with
    |true=>some (.tuple [aJ G s x,(match yW with|some y=>aJ G s y|none=>.top),(match yX with|some y=>aJ G s y|none=>.top)],s.put o.dst (.au (.aP n (((l.take (hi.getD l.length)).drop (lo.getD 0)).map C))))
    |false=>none
   |_,_=>none
  |_=>none
 | .Pt b lo hi _ _=>match o.op with
  | .slice t x yW yX none=>match isStr P t&&(yW.isSome==lo.isSome&&yX.isSome==hi.isSome)with
   |true=>some (.tuple [aJ G s x,(match yW with|some y=>aJ G s y|none=>.top),(match yX with|some y=>aJ G s y|none=>.top)],s.put o.dst (vs (b.extract (lo.getD 0) (hi.getD b.size))))
   |false=>none
  |_=>none
 | .Pr j=>match o.op with
  | .index t x i=>match P.underlying t,aJ G s x with
   |some (.array len e),.agg cs=>match cs[j]?,scalar P e&&(Nat.blt j len&&((P.info? e).map (·.size)==some 1))with
    |some v,true=>some (aJ G s i,s.put o.dst v)
    |_,_=>none
   |_,_=>none
  |_=>none
 | .mk C d m _ e n bytes _=>match o.op with
  | .makeSlice t x y=>match pB P t,zeroCells P e with
   |some (ax,cR,b'),some zs=>match Nat.beq ax e&&(Nat.beq cR n&&(Nat.beq b' bytes&&(zs.all Value.oneCell'&&Nat.ble s.base s.next)))with
    |true=>some (.tuple [aJ G s x,aJ G s y,.au (.ptr (zs.map bh.v))],{s with heap:=(s.next,.row false e n ((List.replicate m d).map C))::s.heap,next:=s.next+1}.put o.dst (.aP s.next))
    |false=>none
   |_,_=>none
  |_=>none
 | .Pu _ _ id n j off _ _=>match o.op with
  | .fieldAddr t x f=>match r5 P t f,rowOf s.heap id n with
   |some k,some (_,es)=>some (.tuple [aJ G s x,.au (.aP n es)],s.put o.dst (.cH id j (off+k)))
   |_,_=>none
  |_=>none
 | .Pv C l id n j off e ax _=>match o.op with
  | .store t p x=>match rowOf s.heap id n,iw (cA (aJ G s x))with
   |some (bt,es),some vs=>match((P.info? t).map (·.size)==some vs.length)&&Nat.ble (off+vs.length) n with
    |true=>some (.tuple [aJ G s p,.au (.aP n es),.au (.ptr (ea (C e) off vs))],{s with heap:=e3 s.heap id (.row false bt n ((l.set j ax).map C))}.put o.dst .top)
    |false=>none
   |_,_=>none
  |_=>none
 | .Pw=>match o.op with
  | .makeFunc (.func f) p q=>some (.top,s.put o.dst (.fn (.func f) (p.toList.map (aJ G s)) (q.toList.map (aJ G s))))
  |_=>none
 | .H5 f p q _ r _=>match o.op with
  | .call c=>match c.callee with
   | .value x=>match nb P f&&(eP (hI s.heap (p++c.args.toList.map (aJ G s)++q))&&jY r)with
    |true=>some (.tuple (aJ G s x::hI s.heap (p++c.args.toList.map (aJ G s)++q)),s.put o.dst r)
    |false=>none
   |_=>none
  |_=>none
 |_=>none
theorem PB{α:Type}{a:Array α}{x:α}(h:a.toList=[x]):a= #[x]:=by apply Array.ext';simpa using h
theorem yY{α:Type}{a:Array α}{x y:α}(h:a.toList=[x,y]):a= #[x,y]:=by apply Array.ext';simpa using h
end
end Go.aM
