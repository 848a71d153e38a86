/- The AV calculus, part K: append, make, cuts of slices and strings, small builtins, conversions. Conditions: none. -/
import Derived.Test.YtmkpmgfieagphaaGreatDoorHSMj
import Derived.Maps.AppendAt
import Derived.Orders
import Derived.Laws.RangeString
import Derived.Laws.RangeAny
namespace Go.aN
open Go
def fB(σ:Heap)(n:Nat):aD→Option (List (List ba))
 | .av (.aP m es)=>if m=n then some es else none
 | .av (.v (.slice none 0 0))=>some []
 | .av (.li i l)=>if b4 i=n then some (l.map (ck i))else none
 | .aP id=>match aE σ id with
  |some (.row _ _ m es)=>if m=n then some es else none
  |_=>none
 |_=>none
section
variable {P:Program} {G:bc} {o:Oper} {s:aQ}
theorem cZ.elems{w:World}{ro:Nat→Prop}{n:Nat}{es:List (List ba)}{c:Value}(h:cZ w ro (.aP n es) c):
 ∃b cap,c= .slice b es.length cap∧(∀e∈es,e.length=n)∧(b=none→es=[])∧∃f:Nat→Value,(∀a,b=some a→∀j,j<es.length*n→w.cell? (a.add j)=some (f j))∧∀j x,es.flatten[j]? =some x→cZ w ro x (f j):=by
 cases h with
 |aP _ _ b cap f aa ae au aR bN=>
  refine⟨b,cap,rfl,au,fun ad=>?_,f,fun a aY j af=>?_,bN⟩
  ·rcases Nat.eq_zero_or_pos es.length with h|h
   ·exact List.eq_nil_of_length_eq_zero h
   ·obtain⟨a,aY,_⟩:=aR h
    rw[ad]at aY;cases aY
  ·have ak:0<es.length:=by
    rcases Nat.eq_zero_or_pos es.length with h|h
    ·rw[h]at af;simp at af
    ·exact h
   obtain⟨bg,LR,hc⟩:=aR ak;rw[aY]at LR;simp only[Option.some.injEq]at LR;subst LR;exact(hc j af).2
theorem xq{w:World}{ro:Nat→Prop}{σ:Heap}{β:Nat→Value}{N:Nat}(a6:ho w ro σ β N){x:aD}{c:Value}(h:bG w ro σ β N x c){n:Nat}{es:List (List ba)}(he:fB σ n x=some es):
 ∃b cap,c= .slice b es.length cap∧(∀e∈es,e.length=n)∧(b=none→es=[])∧∃f:Nat→Value,(∀a,b=some a→∀j,j<es.length*n→w.cell? (a.add j)=some (f j))∧∀j x,es.flatten[j]? =some x→cZ w ro x (f j):=by
 cases h with
 |av x c hx=>
  cases x with
  |v y=>
   cases hx
   cases c with
   |slice a l h6=>
    cases a with
    |none=>
     cases l with
     |zero=>
      cases h6 with
      |zero=>
       simp[fB]at he;subst he;exact⟨none,0,rfl,by simp,fun _=>rfl,fun _=>undef,by simp,by simp⟩
      |succ=>simp[fB]at he
     |succ=>simp[fB]at he
    |some=>simp[fB]at he
   |_=>simp[fB]at he
  |ptr=>simp[fB]at he
  |mp=>simp[fB]at he
  |eB=>simp[fB]at he
  |li i l=>
   simp only[fB]at he
   split at he
   ·rename_i hm
    subst hm;simp only[Option.some.injEq]at he;subst he
    cases hx with
    |li _ _ _ hx=>exact hx.elems
   ·cases he
  |aP m dX=>
   simp only[fB]at he
   split at he
   ·rename_i hm
    subst hm;simp only[Option.some.injEq]at he;subst he;exact hx.elems
   ·cases he
 |aP id c aq ak=>
  simp only[fB]at he
  split at he
  ·rename_i z t m dX ah
   split at he
   ·rename_i hm
    subst hm;simp only[Option.some.injEq]at he;subst he;rw[ak z t _ _ ah]
    have du:=a6.dh id _ ah
    cases du with
    |row _ _ _ xs aa ae au=>
     rcases aa.2 with⟨⟨b,ax,_⟩,aT⟩|⟨g,cap,cur,ax,hc,zfP,hle,im,dR,lM⟩
     ·have:dX=[]:=List.eq_nil_of_length_eq_zero aT
      subst this;rw[ax];exact⟨b,0,rfl,by simp,fun _=>rfl,fun _=>undef,by simp,by simp⟩
     ·rw[ax]
      refine⟨_,_,rfl,ae,by simp,fun j=>xs.getD j undef,fun a aY j af=>?_,au⟩
      simp only[Option.some.injEq]at aY;subst aY;rw[addLit,Nat.zero_add,cell_of_row w g j cur t (0,0) zfP]
      have hx:xs[j]? =cur[j]? :=by rw[←lM,List.getElem?_take,if_pos af];simp
      have jQ:j<xs.length:=by rw[aa.1];exact af
      rw[←hx];simp[List.getD,List.getElem?_eq_getElem jQ]
    |gf _ _ _ aa=>exact aa.elems
   ·cases he
  ·cases he
 |_=>simp[fB]at he
theorem Eo{w:World}(t ty e:TypeId){i:TypeInfo}{z:Value}{n bytes:Nat}(aH:P.underlying t=some (.slice e))(hi:P.info? e=some i)(aT:i.zero=some z)(iF:i.size=n)(jw:i.bytes=bytes)(fe:z.cells.size=n)(hn:0<n)
 {v:Value}{len:Nat}{xs:List Value}(da:ij w e n v len xs){b:Option Addr}{m cap:Nat}{news:List Value}(aq:news.length=m*n)(ad:b=none→m=0)(zfQ: ∀a,b=some a→∀j u,news[j]? =some u→w.cell? (a.add j)=some u)
 (aa: ∀u∈news,u.oneCell'=true)(oW:len+m≤maxLen)(AR:(len+m)*bytes≤140737488355328):
 ∃bo w',(Builtin.append_ #[t,t] ty #[v,.slice b m cap]).run P w= .ok bo w'∧ij w' e n bo (len+m) (xs++news)∧w.grownBy w' (cb v)∧(∀k,cb bo=some k→cb v=some k∨w.heap.size≤k):=by
 by_cases hm:m=0
 ·subst hm
  have rJ:news=[]:=List.eq_nil_of_length_eq_zero (by simpa using aq)
  subst rJ;refine⟨v,w,?_,by simpa using da,World.grownBy.refl w _,fun k aj=>.inl aj⟩
  have Ep:(Builtin.firstCells n 0 (.slice b 0 cap)).run P w= .ok #[] w:=by
   cases b with
   |none=>simp[Builtin.firstCells]
   |some a=>simp[Builtin.firstCells,loadCells,loadCellsFrom]
  rcases da.2 with⟨⟨c,rfl,_⟩,rfl⟩|⟨g,h6,cur,rfl,_,_,hle,_⟩
  ·cases c<;>simp[Builtin.append_,run_underlying aH,sizeOf,typeInfo,hi,iF,Builtin.lenOf,Ep,storeCells]
  ·simp[Builtin.append_,run_underlying aH,sizeOf,typeInfo,hi,iF,Builtin.lenOf,Ep,storeCells,hle]
 ·cases b with
  |none=>exact absurd (ad rfl) hm
  |some a=>
   have e0:=zfQ a rfl
   have own:w.ownsRow 0 e n v len xs→_:=fun hG=>run_append_own_at (P:=P) w 0 t ty e i z n bytes aH hi aT iF jw fe hn v len xs hG a m cap news aq e0 aa oW AR (Nat.zero_le _)
   have fin:w.ownsRow 0 e n v len xs→v.ownBlock=cb v→∃bo w',(Builtin.append_ #[t,t] ty #[v,.slice (some a) m cap]).run P w= .ok bo w'∧ij w' e n bo (len+m) (xs++news)∧w.grownBy w' (cb v)∧(∀k,cb bo=some k→cb v=some k∨w.heap.size≤k):=by
    intro hG bk;obtain⟨bo,w',g1,g2,g3,_,g5⟩:=own hG;refine⟨bo,w',g1,.En g2,bk ▸ g3,fun k aj=>?_⟩
    have eu:bo.ownBlock=some k:=by
     cases bo with
     |slice c l p=>
      cases c with
      |none=>simp[cb]at aj
      |some c=>
       simp only[cb]at aj
       split at aj
       ·cases aj
       ·simpa[Value.ownBlock]using aj
     |pointer c=>
      rcases g2.2 with⟨h,_⟩|⟨_,_,_,h,_⟩<;>cases h
     |map c=>
      rcases g2.2 with⟨h,_⟩|⟨_,_,_,h,_⟩<;>cases h
     |_=>simp[cb]at aj
    rcases g5 with h|h
    ·rw[h,bk]at eu;exact .inl eu
    ·rw[h]at eu;simp at eu;exact .inr (by omega)
   rcases da.2 with⟨⟨c,rfl,_⟩,rfl⟩|⟨g,h6,cur,rfl,AS,ah,hle,im,dR,lM⟩
   ·have hx:xs=[]:=List.eq_nil_of_length_eq_zero (by simpa using da.1)
    subst hx
    cases c with
    |none=>exact fin (World.ownsRow_nil w 0 e n) rfl
    |some c=>
     have c2:=run_append_grow (P:=P) w t ty e i z aH hi aT c 0 0 [] (by simp) (by simp) a m cap news (by rw[iF];exact aq) e0 (by omega) (by simp only[maxLen]at oW;omega) (growslice_fits (by omega) (by rw[jw];exact AR))
     have hG:=World.ownsRow_made (e:=e) (size:=n) w.drew (news.toArray++Builtin.zeroCells z.cells (grownCap w (0+m) 0 e-(0+m))) (grownCap w (0+m) 0 e) (base:=0) (Nat.zero_le _) (grownCap_le_maxLen w (0+m) 0 e oW) (by
      have:=grownCap_ge w (0+m) 0 e
      simp only[Array.size_append,List.size_toArray,size_zeroCells,fe,aq,←Nat.add_mul]
      congr 1
      omega)
     refine⟨_,_,c2,?_,⟨rfl,rfl,rfl,by simp,fun k aj _=>Go.RowKit.Below.heap_alloc w.drew _ k aj⟩,fun k aj=>?_⟩
     ·have h1:=grownCap_ge w (0+m) 0 e
      refine⟨by simp[aq],.inr ⟨w.heap.size,grownCap w (0+m) 0 e,_,rfl,by omega,heap_alloc_new w.drew _,h1,grownCap_le_maxLen w (0+m) 0 e oW,?_,?_⟩⟩
      ·simp only[Array.size_append,List.size_toArray,size_zeroCells,fe,aq,←Nat.add_mul,List.length_nil,Nat.zero_add]at h1⊢
       congr 1
       omega
      ·simp only[Array.toList_append,List.nil_append,Nat.zero_add]
       rw[←aq];exact List.take_left
     ·simp only[cb]at aj
      split at aj
      ·cases aj
      ·simp at aj;exact .inr (by omega)
   ·exact fin ⟨da.1,.inr ⟨g,h6,cur,rfl,Nat.zero_le _,ah,hle,im,dR,lM⟩⟩ (by simp[Value.ownBlock,cb,Nat.ne_of_gt AS])
def qo(P:Program)(t:TypeId):Option (Nat × Nat × Nat):=
 match P.underlying t with
 |some (.slice e)=>match P.info? e with
  |some i=>match i.zero with
   |some z=>if z.cells.size=i.size∧0<i.size then some (e,i.size,i.bytes)else none
   |none=>none
  |none=>none
 |_=>none
theorem qb{t e n bytes:Nat}(h:qo P t=some (e,n,bytes)): ∃i z,P.underlying t=some (.slice e)∧P.info? e=some i∧i.zero=some z∧i.size=n∧i.bytes=bytes∧z.cells.size=n∧0<n:=by
 unfold qo at h
 split at h
 ·rename_i az hu
  split at h
  ·rename_i i hi
   split at h
   ·rename_i z aT
    split at h
    ·rename_i hc
     simp only[Option.some.injEq,Prod.mk.injEq]at h;obtain⟨rfl,rfl,rfl⟩:=h;exact⟨i,z,hu,hi,aT,rfl,rfl,hc.1,hc.2⟩
    ·cases h
   ·cases h
  ·cases h
 ·cases h
theorem AT{w:World}{ro:Nat→Prop}{n:Nat}{es:List (List ba)}(hn: ∀e∈es,e.length=n){f:Nat→Value}(hf: ∀j x,es.flatten[j]? =some x→cZ w ro x (f j)):
 ((List.range (es.length*n)).map f).length=es.length*n∧(∀u∈(List.range (es.length*n)).map f,u.oneCell'=true)∧∀j x,es.flatten[j]? =some x→cZ w ro x (((List.range (es.length*n)).map f).getD j undef):=by
 refine⟨by simp,fun u hu=>?_,fun j x af=>?_⟩
 ·rw[List.mem_map]at hu
  obtain⟨j,af,rfl⟩:=hu;rw[List.mem_range]at af
  have aq:=ka hn
  exact(hf j (es.flatten[j]'(by omega)) (by simp)).one
 ·have aq:=ka hn
  have cW:=(List.getElem?_eq_some_iff.1 af).1
  have:j<es.length*n:=by omega
  simpa[List.getD,this]using hf j x af
theorem xr{w:World}{ro:Nat→Prop}{n:Nat}{es fs:List (List ba)}(hn: ∀e∈es,e.length=n){xs ys:List Value}(hx:xs.length=es.length*n)(aa: ∀j x,es.flatten[j]? =some x→cZ w ro x (xs.getD j undef))
 (ae: ∀j x,fs.flatten[j]? =some x→cZ w ro x (ys.getD j undef)): ∀j x,(es++fs).flatten[j]? =some x→cZ w ro x ((xs++ys).getD j undef):=by
 intro j x af
 rw[List.flatten_append]at af
 have aq:=ka hn
 by_cases h:j<es.flatten.length
 ·rw[List.getElem?_append_left h]at af
  have:=aa j x af
  rw[List.getD,List.getElem?_append_left (by omega)]
  exact this
 ·rw[List.getElem?_append_right (by omega)]at af
  have:=ae _ x af
  rw[List.getD,List.getElem?_append_right (by omega),hx,←aq]
  exact this
theorem zfR(x y:Operand)(t:TypeId)(ao:o.op= .call {callee:=.builtin .append,args:=#[x,y],argTypes:=#[t,t]}){e n bytes:Nat}(aH:qo P t=some (e,n,bytes))
 {id:Nat}(hx:aL G s x= .aP id){es:List (List ba)}(bj:aE s.heap id=some (.row false e n es))(ad:s.base≤id)(bM:id<s.next)
 {fs:List (List ba)}(ay:fB s.heap n (aL G s y)=some fs)(bV:es.length+fs.length≤maxLen∧(es.length+fs.length)*bytes≤140737488355328):
 dY P G o s (aQ.put ⟨eo id s.c0,(id,.row false e n (es++fs))::dz id s.heap,s.next,s.base⟩ o.dst (.aP id)):=by
 intro E a w ⟨β,ro,ag⟩ K Q hK
 obtain⟨i,z,hu,hi,aT,iF,jw,fe,hn⟩:=qb aH
 obtain⟨b,cap,hc,mC,pb,f,ia,pc⟩:=xq ag.heap (ag.eval y) ay
 have du:=ag.heap.dh id _ bj
 cases du with
 |row _ _ _ xs da b9 e0=>
  have lQ:a.eval x=β id:=by
   have h:=ag.eval x
   rw[hx]at h;generalize a.eval x=c at h
   cases h with
   |aP _ _ _ ak=>exact ak _ _ _ _ bj
  obtain⟨n8,pd,rK⟩:=AT mC pc
  obtain⟨bo,w',cA,kL,c2,bk⟩:=Eo (P:=P) t o.type e hu hi aT iF jw fe hn da (b:=b) (m:=fs.length) (cap:=cap) n8 (fun ad=>by rw[pb ad];rfl)
   (fun bg aY j u af=>by
    have cW:=(List.getElem?_eq_some_iff.1 af).1
    rw[n8]at cW
    have aa:=ia bg aY j cW
    simp[cW]at af
    rw[aa,af]) pd bV.1 bV.2
  unfold Oper.wp;simp only[execOp,ao,resolve,invoke,builtin,Sem.run_bind,Sem.run_pure,Result.andThen_ok,List.map_toArray,List.map_cons,List.map_nil,lQ,hc,cA]
  have jr: ∀k,k<w.heap.size→cb (β id)≠some k→w'.heap[k]? =w.heap[k]? :=fun k aj b9=>c2.block k aj (fun e=>b9 e.symm)
  have cm: ∀k,ro k→w'.heap[k]? =w.heap[k]? :=fun k aj=>jr k (ag.heap.lt k aj) fun bk=>ag.heap.fo k aj ⟨id,_,bj,rfl,bk⟩
  refine hK _ _ ⟨gX β id bo,ro,dc.put (ag.renew (w':=w') id ad bM bj (.row false e n (es++fs)) bo c2.os c2.tape c2.output c2.size jr bk rfl ?_) o.dst _ _ ?_⟩
  ·refine .row e n _ _ (by rw[dZ,List.length_append];exact kL) (fun az kb=>?_) (fun j x af=>?_)
   ·rw[List.mem_append]at kb
    rcases kb with h|h
    ·exact b9 _ h
    ·exact mC _ h
   ·exact(xr b9 da.1 e0 rK j x af).keep cm fun _ h=>h
  ·exact .aP _ _ bM fun z bL cS dX _=>(dZ _ _ _).symm
theorem zfS(x y:Operand)(t:TypeId)(ao:o.op= .call {callee:=.builtin .append,args:=#[x,y],argTypes:=#[t,t]}){e n bytes:Nat}(aH:qo P t=some (e,n,bytes))
 (hx:aL G s x= .av (.v (.slice none 0 0)))(ad:s.base≤s.next)
 {fs:List (List ba)}(ay:fB s.heap n (aL G s y)=some fs)(bV:fs.length≤maxLen∧fs.length*bytes≤140737488355328):
 dY P G o s ({s with heap:=(s.next,.row false e n fs)::s.heap,next:=s.next+1}.put o.dst (.aP s.next)):=by
 intro E a w ⟨β,ro,ag⟩ K Q hK
 obtain⟨i,z,hu,hi,aT,iF,jw,fe,hn⟩:=qb aH
 obtain⟨b,cap,hc,mC,pb,f,ia,pc⟩:=xq ag.heap (ag.eval y) ay
 obtain⟨n8,pd,rK⟩:=AT mC pc
 obtain⟨bo,w',cA,kL,c2,bk⟩:=Eo (P:=P) (w:=w) t o.type e hu hi aT iF jw fe hn (v:=.slice none 0 0) (len:=0) (xs:=[]) ⟨by simp,.inl ⟨⟨none,rfl,fun _ h=>(by cases h)⟩,rfl⟩⟩ (b:=b) (m:=fs.length) (cap:=cap) n8 (fun ad=>by rw[pb ad];rfl)
  (fun bg aY j u af=>by
   have cW:=(List.getElem?_eq_some_iff.1 af).1
   rw[n8]at cW
   have aa:=ia bg aY j cW
   simp[cW]at af
   rw[aa,af]) pd (by omega) (by rw[Nat.zero_add];exact bV.2)
 unfold Oper.wp
 simp only[execOp,ao,resolve,invoke,builtin,Sem.run_bind,Sem.run_pure,Result.andThen_ok,List.map_toArray,List.map_cons,List.map_nil,ag.en hx,hc,cA]
 have jq:aE s.heap s.next=none:=by
  cases ah:aE s.heap s.next with
  |none=>rfl
  |some p=>have:=ag.trans.new _ _ ah;omega
 have hw: ∀b,b<w.heap.size→w'.heap[b]? =w.heap[b]? :=fun b ad=>c2.block b ad (by simp[cb])
 have cm: ∀b,ro b→w'.heap[b]? =w.heap[b]? :=fun b ad=>hw b (ag.heap.lt b ad)
 refine hK _ _ ⟨gX β s.next bo,ro,dc.put (ag.new (w':=w') s.next jq ad (Nat.le_refl _) (.row false e n fs) bo c2.os c2.tape c2.output c2.size hw (fun b ad=>?_) rfl ?_) o.dst _ _ ?_⟩
 ·rcases bk b ad with h|h
  ·simp[cb]at h
  ·exact h
 ·refine .row e n _ _ (by rw[dZ];simpa using kL) mC (fun j x af=>(rK j x af).keep cm fun _ h=>h)
 ·exact .aP _ _ (Nat.lt_succ_self _) fun z bL cS dX _=>(dZ _ _ _).symm
theorem Tf{cap len:Nat}{isS:Bool}{lo hi mx:Option Value}{l h m:Nat}(hm:(mx=none∧m=cap)∨∃k,mx=some (.int k (m:Int)))(a6:(hi=none∧mx=none∧h=len)∨∃k,hi=some (.int k (h:Int)))
 (aq:(lo=none∧l=0)∨∃k,lo=some (.int k (l:Int)))(aa:l≤h)(ae:h≤m)(au:m≤cap)(w:World):(Instr.sliceBounds isS len cap lo hi mx).run P w= .ok (l,h,m) w:=by
 rcases hm with⟨rfl,rfl⟩|⟨zl4,rfl⟩<;>rcases a6 with⟨rfl,sV,rfl⟩|⟨zl5,rfl⟩<;>rcases aq with⟨rfl,rfl⟩|⟨Tg,rfl⟩
 all_goals first
  |(cases sV;done)
  |simp[Instr.sliceBounds,Instr.sliceBound,asIntOf,aa,ae,au]
theorem Er (t : TypeId) (x : Operand) (lo hi : Option Operand) (ao : o.op = .slice t x lo hi none) (aH : P.underlying t = some .string) {b : ByteArray} (hx : aL G s x = .av (.v (.string b))) {l h : Nat}
    (aq : (lo = none ∧ l = 0) ∨ ∃ y k, lo = some y ∧ aL G s y = .av (.v (.int k (l : Int)))) (a6 : (hi = none ∧ h = b.size) ∨ ∃ y k, hi = some y ∧ aL G s y = .av (.v (.int k (h : Int)))) (aa : l ≤ h) (ae : h ≤ b.size) :
    cY P G o s (.av (.v (.string (b.extract l h)))) :=
  fun _ a w β ro ag => by
    have ad := Tf (P := P) (cap := b.size) (len := b.size) (isS := false) (lo := lo.map a.eval) (hi := hi.map a.eval) (mx := none) (l := l) (h := h) (m := b.size) (.inl ⟨rfl, rfl⟩)
      (by rcases a6 with ⟨rfl, rfl⟩ | ⟨y, k, rfl, ay⟩
          · exact .inl ⟨rfl, rfl, rfl⟩
          · exact .inr ⟨k, by simp [ag.en ay]⟩)
      (by rcases aq with ⟨rfl, rfl⟩ | ⟨y, k, rfl, ay⟩
          · exact .inl ⟨rfl, rfl⟩
          · exact .inr ⟨k, by simp [ag.en ay]⟩) aa ae (Nat.le_refl _) w
    exact ⟨_, by simp [execOp, ao, ag.en hx, Instr.sliceAt, run_underlying aH, Instr.slice, ad], .fI rfl⟩
theorem Th(src dst:TypeId)(x:Operand)(ao:o.op= .convert src dst x)(ai:(P.underlying src).isSome=true){bs:IntKind}(hd:P.underlying dst=some (.int bs)){k:IntKind}{n:Int}(hx:aL G s x= .av (.v (.int k n))):
 cY P G o s (.av (.v (.int bs (bs.wrap n)))):=
 fun _ a w β ro ag=>by
  cases hu:P.underlying src with
  |none=>simp[hu]at ai
  |some d=>exact⟨_,by simp[execOp,ao,ag.en hx,convert,run_underlying hu,run_underlying hd,Conv.intToInt],.fI rfl⟩
theorem Ti(x y:Operand)(ts:Array TypeId)(ao:o.op= .call {callee:=.builtin .min,args:=#[x,y],argTypes:=ts}){k:IntKind}{m n:Int}(hx:aL G s x= .av (.v (.int k m)))(ay:aL G s y= .av (.v (.int k n))):
 cY P G o s (.av (.v (.int k (if n<m then n else m)))):=
 fun _ a w β ro ag=>⟨.int k (if n<m then n else m),by simp[execOp,ao,resolve,invoke,builtin,ag.en hx,ag.en ay,run_min_int2],.fI rfl⟩
theorem Tj(x y:Operand)(ts:Array TypeId)(ao:o.op= .call {callee:=.builtin .max,args:=#[x,y],argTypes:=ts}){k:IntKind}{m n:Int}(hx:aL G s x= .av (.v (.int k m)))(ay:aL G s y= .av (.v (.int k n))):
 cY P G o s (.av (.v (.int k (if n>m then n else m)))):=
 fun _ a w β ro ag=>⟨.int k (if n>m then n else m),by simp[execOp,ao,resolve,invoke,builtin,ag.en hx,ag.en ay,run_max_int2],.fI rfl⟩
theorem zfT(cE ty:TypeId)(x y:Operand)(ao:o.op= .binOp .add cE x y ty){u v:ByteArray}(hx:aL G s x= .av (.v (.string u)))(ay:aL G s y= .av (.v (.string v)))(bV:u.size+v.size≤9223372036854775807):
 cY P G o s (.av (.v (.string (u++v)))):=
 o7 .add cE ty x y ao hx ay (by
  simp only[kc]
  rw[if_neg (by simp only[IntKind.max_i64];omega)])
end
end Go.aN
namespace Go.aN
open Go
def qp(s:aQ)(o:Oper)(v:aD):Option aQ:=some (s.put o.dst v)
def isStr(P:Program)(t:TypeId):Bool:=
 match P.underlying t with
 |some .string=>true
 |_=>false
def Es(P:Program)(t:TypeId):Bool:=
 match P.underlying t with
 |some .bool=>true
 |_=>false
theorem u3{P:Program}{t:TypeId}(h:isStr P t=true):P.underlying t=some .string:=by
 unfold isStr at h
 split at h
 ·assumption
 ·cases h
theorem Et{P:Program}{t:TypeId}(h:Es P t=true):P.underlying t=some .bool:=by
 unfold Es at h
 split at h
 ·assumption
 ·cases h
def LS(P:Program)(G:bc)(b:Builtin)(xs:List Operand)(ts:List TypeId)(s:aQ):Option aD:=
 match b,xs,ts with
 | .len,[x],[t]=>match lf s.heap (aL G s x)with
  |some m=>if isSlice P t then some (.av (.v (.int .i64 (m:Int))))else none
  |none=>match aL G s x with
   | .av (.v (.string b))=>if isStr P t then some (.av (.v (.int .i64 (b.size:Int))))else none
   |_=>match Ek P t with
    |some n=>some (.av (.v (.int .i64 (n:Int))))
    |none=>none
 | .min,[x,y],_=>match aL G s x,aL G s y with
  | .av (.v (.int k m)),.av (.v (.int bs n))=>if k=bs then some (.av (.v (.int k (if n<m then n else m))))else none
  |_,_=>none
 | .max,[x,y],_=>match aL G s x,aL G s y with
  | .av (.v (.int k m)),.av (.v (.int bs n))=>if k=bs then some (.av (.v (.int k (if n>m then n else m))))else none
  |_,_=>none
 |_,_,_=>none
def rL(P:Program)(G:bc)(o:Oper)(s:aQ):Option aD:=
 match o.op with
 | .move x=>some (aL G s x)
 | .assign x=>some (aL G s x)
 | .load t x=>match fu s.heap (aL G s x)with
  |some cs=>match mr P t with
   |some n=>if n≤cs.length∧0<n then some (.agg (cs.take n))else none
   |none=>if scalar P t then match cs with
    |y::_=>some y
    |[]=>none
    else none
  |none=>none
 | .fieldAddr t x f=>match sT P t f,jR s.heap (aL G s x)with
  |some k,true=>some (rr k (aL G s x))
  |_,_=>none
 | .nilCheck x=>match jR s.heap (aL G s x)with
  |true=>some (aL G s x)
  |false=>none
 | .field t x f=>match aL G s x,xo P t f with
  | .agg cs,some (off,none)=>match cs[off]? with
   |some v=>some v
   |none=>none
  | .agg cs,some (off,some n)=>if off+n≤cs.length then some (.agg ((cs.drop off).take n))else none
  |_,_=>none
 | .indexAddr t x i=>match aL G s i with
  | .av (.v (.int _ (.ofNat j)))=>match ke P t with
   |some n=>match mA s.heap n j (aL G s x)with
    |some p=>some p
    |none=>none
   |none=>match u1 P t,fu s.heap (aL G s x)with
    |some (len,n),some _=>if j<len then match iR (j*n) (aL G s x)with
     |some p=>some p
     |none=>none
     else none
    |_,_=>none
  |_=>none
 | .index t x i=>match aL G s i,aL G s x with
  | .av (.v (.int _ (.ofNat j))),.av (.v (.string b))=>if isStr P t then match b.data.toList[j]? with
   |some u=>some (.av (.v (.int .u8 (u.toNat:Int))))
   |none=>none
   else none
  |_,_=>none
 | .binOp op cE x y _=>match aL G s x,aL G s y with
  | .av (.v (.bool u)),.av (.v (.bool v))=>if Es P cE then match op with
   | .eql=>some (.av (.v (.bool (u==v))))
   | .neq=>some (.av (.v (.bool (!(u==v)))))
   |_=>none
   else none
  | .av (.v u),.av (.v v)=>match kc op u v with
   |some c=>some (.av (.v c))
   |none=>none
  | .agg cs,.agg ds=>match na P cE,hH cs,hH ds with
   |some fs,some xs,some ys=>match AE P 0 fs xs ys with
    |some b=>match op with
     | .eql=>some (.av (.v (.bool b)))
     | .neq=>some (.av (.v (.bool (!b))))
     |_=>none
    |none=>none
   |_,_,_=>none
  |_,_=>none
 | .unOp op _ x=>match op,aL G s x with
  | .not,.av (.v (.bool b))=>some (.av (.v (.bool (!b))))
  | .neg,.av (.v (.int k n))=>some (.av (.v (.int k (k.wrap (0-n)))))
  |_,_=>none
 | .pick c x y=>match aL G s c with
  | .av (.v (.bool true))=>some (aL G s x)
  | .av (.v (.bool false))=>some (aL G s y)
  |_=>none
 | .extract x i=>match aL G s x with
  | .tuple cs=>match cs[i]? with
   |some v=>some v
   |none=>none
  |_=>none
 | .build t parts=>match places P t,zeroCells P t with
  |some pl,some zs=>if zs.all Value.oneCell'∧(parts.toList.map fun p=>(p.1,aL G s p.2)).all (fun p=>(c1 p.2).all (eJ s.heap))then
   match kf pl (zs.map fun z=>.av (.v z)) (parts.toList.map fun p=>(p.1,aL G s p.2))with
   |some ds=>some (.agg ds)
   |none=>none
   else none
  |_,_=>none
 | .call c=>match c.callee with
  | .builtin b=>LS P G b c.args.toList c.argTypes.toList s
  |_=>none
 | .convert src dst x=>match aL G s x,P.underlying dst with
  | .av (.v (.int _ n)),some (.int bs)=>if(P.underlying src).isSome then some (.av (.v (.int bs (bs.wrap n))))else none
  |_,_=>none
 |_=>none
def LU(P:Program)(G:bc)(o:Oper)(s:aQ):Option aQ:=
 match rL P G o s with
 |some v=>qp s o v
 |none=>match o.op with
  | .store t p x=>match aL G s p with
   | .ptr id off=>match aE s.heap id with
    |some (.box bt cs)=>if(c1 (aL G s x)).all (eJ s.heap)∧(P.info? t).map (·.size)=some (c1 (aL G s x)).length∧off+(c1 (aL G s x)).length≤cs.length
     then qp {s with heap:=eU s.heap id (.box bt (ey cs off (c1 (aL G s x))))} o .top else none
    |_=>none
   | .c5 id i off=>match aE s.heap id with
    |some (.row false bt n es)=>match es[i]?,iS (c1 (aL G s x))with
     |some e,some vs=>if(P.info? t).map (·.size)=some vs.length∧off+vs.length≤n then qp {s with heap:=eU s.heap id (.row false bt n (es.set i (ey e off vs)))} o .top else none
     |_,_=>none
    |_=>none
   |_=>none
  | .alloc t=>match zeroCells P t with
   |some zs=>if zs.all Value.oneCell'∧s.base≤s.next then qp {s with heap:=(s.next,.box t (zs.map fun z=>.av (.v z)))::s.heap,next:=s.next+1} o (.ptr s.next 0)else none
   |none=>none
  | .box t x=>if(c1 (aL G s x)).all (eJ s.heap)∧s.base≤s.next then qp {s with heap:=(s.next,.box t (c1 (aL G s x)))::s.heap,next:=s.next+1} o (.ptr s.next 0)else none
  |_=>none
section
variable {P:Program} {G:bc} {o:Oper} {s bF:aQ} {v:aD}
theorem zfU{b:Builtin}{args:Array Operand}{ts:Array TypeId}(ao:o.op= .call {callee:=.builtin b,args,argTypes:=ts})(h:LS P G b args.toList ts.toList s=some v):cY P G o s v:=by
 unfold LS at h
 split at h
 ·rename_i x t aY zfV
  have aB:args= #[x]:=by apply Array.ext';simpa using aY
  have bl:ts= #[t]:=by apply Array.ext';simpa using zfV
  subst aB bl
  split at h
  ·rename_i m hm
   split at h
   ·rename_i aH
    simp only[Option.some.injEq]at h;subst h;exact LL x t ao aH hm
   ·cases h
  ·split at h
   ·rename_i b hx
    split at h
    ·rename_i aH
     simp only[Option.some.injEq]at h;subst h;exact LM x t ao (u3 aH) hx
    ·cases h
   ·split at h
    ·rename_i n hn
     simp only[Option.some.injEq]at h;subst h;exact S2 x t ao hn
    ·cases h
 ·rename_i x y aY
  have aB:args= #[x,y]:=by apply Array.ext';simpa using aY
  subst aB
  split at h
  ·rename_i k m bs n hx ay
   split at h
   ·rename_i aj
    subst aj;simp only[Option.some.injEq]at h;subst h;exact Ti x y ts ao hx ay
   ·cases h
  ·cases h
 ·rename_i x y aY
  have aB:args= #[x,y]:=by apply Array.ext';simpa using aY
  subst aB
  split at h
  ·rename_i k m bs n hx ay
   split at h
   ·rename_i aj
    subst aj;simp only[Option.some.injEq]at h;subst h;exact Tj x y ts ao hx ay
   ·cases h
  ·cases h
 ·cases h
theorem LV(h:rL P G o s=some v):cY P G o s v:=by
 unfold rL at h
 split at h
 ·rename_i x ao
  simp only[Option.some.injEq]at h;subst h;exact Sk x ao
 ·rename_i x ao
  simp only[Option.some.injEq]at h;subst h;exact Sl x ao
 ·rename_i t x ao
  split at h
  ·rename_i cs hc
   split at h
   ·rename_i n hn
    split at h
    ·rename_i aq
     simp only[Option.some.injEq]at h;subst h;exact Sm t x ao hn hc aq.1 aq.2
    ·cases h
   ·split at h
    ·rename_i ai
     split at h
     ·simp only[Option.some.injEq]at h;subst h;exact Lo t x ao ai hc
     ·cases h
    ·cases h
  ·cases h
 ·rename_i t x f ao
  split at h
  ·rename_i k aj hc
   simp only[Option.some.injEq]at h;subst h;exact Sp t x f ao aj hc
  ·cases h
 ·rename_i x ao
  split at h
  ·rename_i hc
   simp only[Option.some.injEq]at h;subst h;exact Sq x ao hc
  ·cases h
 ·rename_i t x f ao
  split at h
  ·rename_i cs off hx aH
   split at h
   ·rename_i v ax
    simp only[Option.some.injEq]at h;subst h;exact S6 t x f ao aH hx ax
   ·cases h
  ·rename_i cs off n hx aH
   split at h
   ·rename_i hn
    simp only[Option.some.injEq]at h;subst h;exact S7 t x f ao aH hx hn
   ·cases h
  ·cases h
 ·rename_i t x i ao
  split at h
  ·rename_i k j hi
   split at h
   ·rename_i n hn
    split at h
    ·rename_i p ak
     simp only[Option.some.injEq]at h;subst h;exact S4 t x i ao hn hi ak
    ·cases h
   ·split at h
    ·rename_i len n cs aH dR
     split at h
     ·rename_i af
      split at h
      ·rename_i p ak
       simp only[Option.some.injEq]at h;subst h;exact LN t x i ao aH hi af dR ak
      ·cases h
     ·cases h
    ·cases h
  ·cases h
 ·rename_i t x i ao
  split at h
  ·rename_i k j b hi hx
   split at h
   ·rename_i aH
    split at h
    ·rename_i u hu
     simp only[Option.some.injEq]at h;subst h;exact S5 t x i ao (u3 aH) hi hx hu
    ·cases h
   ·cases h
  ·cases h
 ·rename_i op cE x y ty ao
  split at h
  ·rename_i u v hx ay
   split at h
   ·rename_i aH
    split at h
    ·simp only[Option.some.injEq]at h;subst h;exact SG cE ty x y ao (Et aH) hx ay
    ·simp only[Option.some.injEq]at h;subst h;exact SH cE ty x y ao (Et aH) hx ay
    ·cases h
   ·cases h
  ·rename_i u v _ hx ay
   split at h
   ·rename_i c hc
    simp only[Option.some.injEq]at h;subst h;exact o7 _ cE ty x y ao hx ay hc
   ·cases h
  ·rename_i cs ds hx ay
   split at h
   ·rename_i fs xs ys hf n3 mw
    split at h
    ·rename_i b ad
     split at h
     ·simp only[Option.some.injEq]at h;subst h;exact SN cE ty x y ao hf hx ay n3 mw ad
     ·simp only[Option.some.injEq]at h;subst h;exact SO cE ty x y ao hf hx ay n3 mw ad
     ·cases h
    ·cases h
   ·cases h
  ·cases h
 ·rename_i op t x ao
  split at h
  ·rename_i b hx
   simp only[Option.some.injEq]at h;subst h;exact SP t x ao hx
  ·rename_i k n hx
   simp only[Option.some.injEq]at h;subst h;exact SQ t x ao hx
  ·cases h
 ·rename_i c x y ao
  split at h
  ·rename_i hc
   simp only[Option.some.injEq]at h;subst h;exact AG c x y ao hc rfl
  ·rename_i hc
   simp only[Option.some.injEq]at h;subst h;exact AG c x y ao hc rfl
  ·cases h
 ·rename_i x i ao
  split at h
  ·rename_i cs hx
   split at h
   ·rename_i v ax
    simp only[Option.some.injEq]at h;subst h;exact SR x i ao hx ax
   ·cases h
  ·cases h
 ·rename_i t parts ao
  split at h
  ·rename_i pl zs ak aT
   split at h
   ·rename_i hc
    split at h
    ·rename_i ds hf
     simp only[Option.some.injEq]at h;subst h;exact Tb t parts ao ak aT hc.1 rfl hc.2 hf
    ·cases h
   ·cases h
  ·cases h
 ·rename_i c ao
  split at h
  ·rename_i b ad
   obtain⟨callee,args,ts⟩:=c;simp only at ad h;subst ad;exact zfU ao h
  ·cases h
 ·rename_i src dst x ao
  split at h
  ·rename_i k n bs hx hd
   split at h
   ·rename_i ai
    simp only[Option.some.injEq]at h;subst h;exact Th src dst x ao ai hd hx
   ·cases h
  ·cases h
 ·cases h
theorem zfW(h:LU P G o s=some bF):dY P G o s bF:=by
 unfold LU at h
 split at h
 ·rename_i v ax
  simp only[qp,Option.some.injEq]at h;subst h;exact(LV ax).step
 ·split at h
  ·rename_i t p x ao
   split at h
   ·rename_i id off ak
    split at h
    ·rename_i bt cs ah
     split at h
     ·rename_i hc
      simp only[qp,Option.some.injEq]at h;subst h;exact Sz t p x ao ak ah rfl hc.1 hc.2.1 hc.2.2
     ·cases h
    ·cases h
   ·rename_i id i off ak
    split at h
    ·rename_i bt n es ah
     split at h
     ·rename_i e vs he ax
      split at h
      ·rename_i hc
       simp only[qp,Option.some.injEq]at h;subst h;exact SB t p x ao ak ah he ax hc.1 hc.2
      ·cases h
     ·cases h
    ·cases h
   ·cases h
  ·rename_i t ao
   split at h
   ·rename_i zs aT
    split at h
    ·rename_i hc
     simp only[qp,Option.some.injEq]at h;subst h;exact Sx t ao hc.2 aT hc.1
    ·cases h
   ·cases h
  ·rename_i t x ao
   split at h
   ·rename_i hc
    simp only[qp,Option.some.injEq]at h;subst h;exact Sv t x ao hc.2 hc.1
   ·cases h
  ·cases h
def dV(ops:Array Oper)(s:aQ)(o:Oper):Option Bool:=
 match o.guard with
 |none=>some true
 |some (j,b)=>match my ops j with
  |some d=>match s.c0[d]? with
   |some (.av (.v (.bool c)))=>some (match b,c with
    |true,true=>true
    |false,false=>true
    |_,_=>false)
   |some (.tuple _)=>some false
   |_=>none
  |none=>none
def xt(P:Program)(G:bc)(ops:Array Oper):Nat→List Oper→aQ→Option aQ
 |0,_,s=>some s
 |n+1,o::r,s=>match dV ops s o with
  |some true=>match LU P G o s with
   |some bF=>xt P G ops n r bF
   |none=>none
  |some false=>xt P G ops n r (s.put o.dst (.tuple []))
  |none=>none
 |_+1,[],_=>none
variable {Q:Exit→aQ→Prop}
theorem cD.step{ops:Array Oper}{rest:List Oper}(ah:dV ops s o=some true)(h:dY P G o s bF)(k:cD P G ops Q rest bF):cD P G ops Q (o::rest) s:=by
 unfold dV at ah
 split at ah
 ·rename_i hn
  exact cD.cons hn h k
 ·rename_i j b hn
  split at ah
  ·rename_i d hd
   split at ah
   ·rename_i c ai
    simp only[Option.some.injEq]at ah
    have AU:b=c:=by cases b<;>cases c<;>simp_all
    subst AU;exact cD.guarded hn hd ai h k
   ·cases ah
   ·cases ah
  ·cases ah
theorem cD.pass{ops:Array Oper}{rest:List Oper}(ah:dV ops s o=some false)(k:cD P G ops Q rest (s.put o.dst (.tuple []))):cD P G ops Q (o::rest) s:=by
 unfold dV at ah
 split at ah
 ·cases ah
 ·rename_i j b hn
  split at ah
  ·rename_i d hd
   split at ah
   ·rename_i c ai
    simp only[Option.some.injEq]at ah
    have AU:c= !b:=by cases b<;>cases c<;>simp_all
    subst AU;exact cD.zfv hn hd ai k
   ·rename_i cs ai
    exact cD.zfw hn hd ai k
   ·cases ah
  ·cases ah
theorem cD.run{ops:Array Oper}: ∀(n:Nat) {l:List Oper} {s bF:aQ},xt P G ops n l s=some bF→cD P G ops Q (l.drop n) bF→cD P G ops Q l s
 |0,l,s,bF,h,k=>by
  simp[xt]at h;subst h;exact k
 |n+1,[],s,bF,h,k=>by simp[xt]at h
 |n+1,o::r,s,bF,h,k=>by
  simp only[xt]at h
  split at h
  ·rename_i ah
   split at h
   ·rename_i s1 aa
    exact cD.step ah (zfW aa) (cD.run n h k)
   ·cases h
  ·rename_i ah
   exact cD.pass ah (cD.run n h k)
  ·cases h
end
end Go.aN
namespace Go.aN
open Go
abbrev iT(n:Int):aD:=.av (.v (.int .i64 n))
abbrev tW(b:Bool):aD:=.av (.v (.bool b))
abbrev vs(s:ByteArray):aD:=.av (.v (.string s))
abbrev zfX(l:List ba):List aD:=l.map .av
def ng:Nat→Nat→List (Nat × aD)→List aD
 |_,0,_=>[]
 |i,k+1,[]=>.top::ng (i+1) k []
 |i,k+1,(j,v)::r=>if i=j then v::ng (i+1) k r else .top::ng (i+1) k ((j,v)::r)
theorem gx(n:Int)(aa: -9223372036854775808≤n)(ae:n≤9223372036854775807):IntKind.i64.wrap n=n:=by
 rw[IntKind.wrap_i64];omega
def mD(σ:Heap):Heap→Heap
 |[]=>[]
 |(k,.box t cs)::r=>(k,.box t (kJ σ cs))::mD σ r
 |(k,.row z t n es)::r=>(k,.row z t n es)::mD σ r
 |(k,.bU bW)::r=>(k,.bU bW)::mD σ r
def kM(σ:Heap):ew→ew
 | .box t cs=>.box t (kJ σ cs)
 | .row z t n es=>.row z t n es
 | .bU bW=>.bU bW
theorem qq(σ:Heap): ∀(h:Heap) (k:Nat),aE (mD σ h) k=(aE h k).map (kM σ)
 |[],k=>by simp[mD,aE]
 |(j,.box t cs)::r,k=>by
  by_cases af:j=k
  ·simp[mD,aE,af,kM]
  ·simp[mD,aE,af,qq σ r k]
 |(j,.row z t n es)::r,k=>by
  by_cases af:j=k
  ·simp[mD,aE,af,kM]
  ·simp[mD,aE,af,qq σ r k]
 |(j,.bU bW)::r,k=>by
  by_cases af:j=k
  ·simp[mD,aE,af,kM]
  ·simp[mD,aE,af,qq σ r k]
theorem ij.LW{w:World}{ro:Nat→Prop}{t:TypeId}{n:Nat}{v:Value}{es:List (List ba)}{xs:List Value}(h:ij w t n v es.length xs)(hn: ∀e∈es,e.length=n)(hc: ∀j x,es.flatten[j]? =some x→cZ w ro x (xs.getD j undef))
 (cm: ∀b,cb v=some b→ro b):cZ w ro (.aP n es) v:=by
 rcases h.2 with⟨⟨b,ax,_⟩,aT⟩|⟨g,cap,cur,ax,ak,ah,hle,im,dR,lM⟩
 ·subst ax
  have:es=[]:=List.eq_nil_of_length_eq_zero aT
  subst this;exact .aP n [] b 0 (fun _=>undef) (by simp) (Nat.zero_le _) (by simp) (by simp) (by simp)
 ·subst ax
  refine .aP n es _ cap (fun j=>xs.getD j undef) hle im hn (fun _=>⟨⟨g,0,none⟩,rfl,fun j af=>⟨cm g (by simp[cb,Nat.ne_of_gt ak]),?_⟩⟩) hc
  rw[addLit,Nat.zero_add,cell_of_row w g j cur t (0,0) ah]
  have hx:xs[j]? =cur[j]? :=by rw[←lM,List.getElem?_take,if_pos af];simp
  have jQ:j<xs.length:=by rw[h.1];exact af
  rw[←hx];simp[List.getD,List.getElem?_eq_getElem jQ]
def nh(s:aQ)(id:Nat):aQ:=
 match aE s.heap id with
 |some (.row false t n es)=>⟨kJ [(id,.row true t n es)] s.c0,mD [(id,.row true t n es)] (gu s.heap id),s.next,s.base⟩
 |_=>s
theorem cw.nh(s:aQ)(id:Nat):cw s (nh s id):=by
 unfold Go.aN.nh
 split
 ·rename_i t n es bj
  intro E G a w ⟨β,ro,h⟩
  have du:=h.heap.dh id _ bj
  cases du with
  |row _ _ _ xs da hn hc=>

   have Eu:cZ w (fun b=>ro b∨cb (β id)=some b) (.aP n es) (β id):=da.LW hn (fun j x af=>(hc j x af).keep (fun _ _=>rfl) fun _ h=>.inl h) fun b ad=>.inr ad
   have gE: ∀k o,aE (gu s.heap id) k=some o→aE s.heap k=some o∧k≠id:=by
    intro k o aj;rw[Au]at aj
    split at aj
    ·cases aj
    ·rename_i b9
     exact⟨aj,fun e=>b9 e.symm⟩
   have view: ∀x c,bG w ro s.heap β s.next x c→bG w (fun b=>ro b∨cb (β id)=some b) (mD [(id,.row true t n es)] (gu s.heap id)) β s.next (hQ [(id,.row true t n es)] x) c:=by
    intro x c hx
    induction hx with
    |av x c hx=>exact .av x c (hx.keep (fun _ _=>rfl) fun _ h=>.inl h)
    |agg cs c aa _ aZ=>
     refine .agg _ c (by rw[n4];exact aa) fun j x af=>?_
     obtain⟨y,ay,rfl⟩:=o8 _ af;exact aZ j y ay
    |tuple cs c aa _ aZ=>
     refine .tuple _ c (by rw[n4];exact aa) fun j x af=>?_
     obtain⟨y,ay,rfl⟩:=o8 _ af;exact aZ j y ay
    |ptr k off c aq ak=>
     refine .ptr k off c aq fun bL cs' ah=>?_
     rw[qq]at ah
     cases aj:aE (gu s.heap id) k with
     |none=>simp[aj]at ah
     |some p=>
      cases p with
      |box t2 AV=>exact ak t2 AV (gE k _ aj).1
      |row=>simp[aj,kM]at ah
      |bU=>simp[aj,kM]at ah
    |dF k off c aq ak=>
     refine .dF k off c aq fun bL cs' ah=>?_
     rw[qq]at ah
     cases aj:aE (gu s.heap id) k with
     |none=>simp[aj]at ah
     |some p=>
      cases p with
      |box t2 AV=>exact ak t2 AV (gE k _ aj).1
      |row=>simp[aj,kM]at ah
      |bU=>simp[aj,kM]at ah
    |c5 k i off c aq ak=>
     refine .c5 k i off c aq fun iE bL cS dX ah=>?_
     rw[qq]at ah
     cases aj:aE (gu s.heap id) k with
     |none=>simp[aj]at ah
     |some p=>
      cases p with
      |box t2 AV=>simp[aj,kM]at ah
      |bU=>simp[aj,kM]at ah
      |row z2 t2 gz zfY=>
       simp only[aj,kM,Option.map_some,Option.some.injEq,ew.row.injEq]at ah;obtain⟨rfl,rfl,rfl,rfl⟩:=ah;exact ak _ _ _ _ (gE k _ aj).1
    |aP k c aq ak=>
     simp only[hQ,aE]
     by_cases aj:id=k
     ·subst aj
      simp only[if_true];rw[ak _ _ _ _ bj];exact .av _ _ Eu
     ·simp only[if_neg aj]
      refine .aP k c aq fun iE bL cS dX ah=>?_
      rw[qq]at ah
      cases eu:aE (gu s.heap id) k with
      |none=>simp[eu]at ah
      |some p=>
       cases p with
       |box t2 AV=>simp[eu,kM]at ah
       |bU=>simp[eu,kM]at ah
       |row z2 t2 gz zfY=>exact ak _ _ _ _ (gE k _ eu).1
    |fn f p q c d aa ae _ _ hq hr=>
     refine .fn f _ _ c d (by rw[n4];exact aa) (by rw[n4];exact ae) (fun j x af=>?_) (fun j x af=>?_)
     ·obtain⟨y,ay,rfl⟩:=o8 _ af
      exact hq j y ay
     ·obtain⟨y,ay,rfl⟩:=o8 _ af
      exact hr j y ay
    |ref k c aq ak=>
     refine .ref k c aq fun bW ah=>?_
     rw[qq]at ah
     cases aj:aE (gu s.heap id) k with
     |none=>simp[aj]at ah
     |some p=>
      cases p with
      |box=>simp[aj,kM]at ah
      |row=>simp[aj,kM]at ah
      |bU lL=>exact ak lL (gE k _ aj).1
    |top c=>exact .top c
   have back: ∀k o,aE (mD [(id,.row true t n es)] (gu s.heap id)) k=some o→∃p,aE s.heap k=some p∧k≠id∧p.live=o.live∧o=kM [(id,.row true t n es)] p:=by
    intro k o ah;rw[qq]at ah
    cases aj:aE (gu s.heap id) k with
    |none=>simp[aj]at ah
    |some p=>
     obtain⟨aa,ae⟩:=gE k p aj;refine⟨p,aa,ae,?_,?_⟩
     ·simp[aj]at ah
      subst ah
      cases p<;>rfl
     ·simp[aj]at ah
      exact ah.symm
   refine⟨β,fun b=>ro b∨cb (β id)=some b,h.defers,by simpa[n4]using h.size,fun i x hx=>?_,⟨fun k o ah=>?_,fun k bs o cG b ah ec aq sW ad gD=>?_,fun b ad=>?_,fun b ad=>?_⟩,
    h.ik.keep (fun _ _=>rfl) fun _ h=>.inl h,?_,h.base⟩
   ·obtain⟨y,ay,rfl⟩:=o8 _ hx
    exact view _ _ (h.slot i y ay)
   ·obtain⟨p,aa,ae,au,rfl⟩:=back k o ah
    have ao:=h.heap.dh k p aa
    cases ao with
    |box bL cs' b arr aB bl cx eR=>
     refine .box bL _ b arr aB bl (by rw[n4];exact cx) fun j x af=>?_
     obtain⟨y,ay,rfl⟩:=o8 _ af;exact view _ _ (eR j y ay)
    |row bL cS dX Lu aB bl cx=>exact .row bL cS dX Lu aB bl fun j x af=>(cx j x af).keep (fun _ _=>rfl) fun _ h=>.inl h
    |gf bL cS dX aB=>exact .gf bL cS dX (aB.keep (fun _ _=>rfl) fun _ h=>.inl h)
    |bU bW b o aB bl cx=>exact .bU bW b o aB bl (bW.mono _ _ _ _ (fun x c h=>h.keep (fun _ _=>rfl) fun _ h=>.inl h) cx)
   ·obtain⟨p,aa,_,au,_⟩:=back k o ah
    obtain⟨fZ,sX,_,zfZ,_⟩:=back bs cG ec;exact h.heap.inj k bs p fZ b aa sX (au.trans aq) (zfZ.trans sW) ad gD
   ·rintro⟨k,o,ah,aq,bk⟩
    obtain⟨p,aa,ae,au,_⟩:=back k o ah
    rcases ad with ad|ad
    ·exact h.heap.fo b ad ⟨k,p,aa,au.trans aq,bk⟩
    ·exact ae (h.heap.inj k id p _ b aa bj (au.trans aq) rfl bk ad)
   ·rcases ad with ad|ad
    ·exact h.heap.lt b ad
    ·exact(da.hO ad).1
   ·have bL:=h.trans
    refine⟨bL.os,bL.tape,bL.output,bL.size,bL.frame,fun b ad=>?_,fun b ad=>.inl (bL.j9 b ad),?_,fun k aj o ah=>?_,fun k o ah=>?_,bL.le⟩
    ·rcases ad with ad|ad
     ·exact bL.jo b ad
     ·rcases bL.hp b ⟨id,_,bj,rfl,ad⟩with hc|hc
      ·exact .inr (.inl hc)
      ·exact .inr (.inr hc)
    ·rintro b ⟨k,o,ah,aq,bk⟩
     obtain⟨p,aa,_,au,_⟩:=back k o ah;exact bL.hp b ⟨k,p,aa,au.trans aq,bk⟩
    ·obtain⟨p,aa,_,_,_⟩:=back k o ah
     exact bL.dT k aj p aa
    ·obtain⟨p,aa,_,_,_⟩:=back k o ah
     exact bL.new k p aa
 ·exact cw.refl s
end Go.aN
namespace Go.aN
open Go
def qt(s:ByteArray)(pos:Nat):xe:=⟨fun _ v o=>(∃b,v= .pointer (some ⟨b,0,none⟩))∧o= .stringIter s pos,fun _ _ _ _ _ h=>h,none,fun _ h=>by cases h⟩
section
variable {P:Program} {G:bc} {o:Oper} {s:aQ}
theorem run_newObj(il:Obj)(w:World):(newObj il).run P w= .ok w.heap.size (w.alloc il):=rfl
theorem Tk{w:World}{r:Nat}{b:ByteArray}{p:Nat}(h:w.heap[r]? =some (.stringIter b p)):(getObj r).run P w= .ok (.stringIter b p) w:=by simp[getObj,Sem.run,h]
theorem zf0{w:World}{r:Nat}{b:ByteArray}{p:Nat}(il:Obj)(h:w.heap[r]? =some (.stringIter b p)):(setObj r il).run P w= .ok () {w with heap:=w.heap.setIfInBounds r il}:=by simp[setObj,Sem.run,h]
theorem zf1(t:TypeId)(x:Operand)(ao:o.op= .range t x)(aH:P.underlying t=some .string){b:ByteArray}(hx:aL G s x= .av (.v (.string b)))(ad:s.base≤s.next):
 dY P G o s ({s with heap:=(s.next,.bU (qt b 0))::s.heap,next:=s.next+1}.put o.dst (.ref s.next)):=by
 intro E a w ⟨β,ro,ag⟩ K Q hK
 unfold Oper.wp
 simp only[execOp,ao,ag.en hx,Sem.run_bind,Instr.range,run_underlying aH,Result.andThen_ok,Sem.run_pure]
 have jq:aE s.heap s.next=none:=by
  cases ah:aE s.heap s.next with
  |none=>rfl
  |some p=>have:=ag.trans.new _ _ ah;omega
 have fh:=ag.new (w':=w.alloc (.stringIter b 0)) s.next jq ad (Nat.le_refl _) (.bU (qt b 0)) (.pointer (some ⟨w.heap.size,0,none⟩)) rfl rfl rfl (by simp) (fun b ad=>Go.RowKit.Below.heap_alloc w _ b ad) (fun b ad=>by simp[cb]at ad;omega) rfl
  (.bU _ w.heap.size (.stringIter b 0) (by rw[dZ];rfl) (heap_alloc_new w _) ⟨⟨_,dZ _ _ _⟩,rfl⟩)
 have aj:=hK _ _ ⟨_,ro,fh.put o.dst (.ref s.next) (.pointer (some ⟨w.heap.size,0,none⟩)) (.ref _ _ (Nat.lt_succ_self _) fun bW _=>(dZ _ _ _).symm)⟩
 rw[run_newObj]
 exact aj
theorem zf2(x:Operand)(ao:o.op= .next x true){id:Nat}(hx:aL G s x= .ref id){b:ByteArray}{pos:Nat}(bj:aE s.heap id=some (.bU (qt b pos)))(ak:b.size≤pos):
 cY P G o s (.tuple [.av (.v (.bool false))]):=
 fun E a w β ro ag=>by
  have du:=ag.heap.dh id _ bj
  cases du with
  |bU _ Ev il aa ae au=>
   obtain⟨⟨b',gD⟩,rfl⟩:=au
   have ea:=ag.eval x
   rw[hx]at ea;generalize he:a.eval x=c at ea
   cases ea with
   |ref _ _ _ hc=>
    have iU:=hc _ bj
    rw[gD]at aa iU;simp only[cb,Option.some.injEq]at aa;subst aa;refine⟨.tuple #[.bool false],?_,.tuple _ _ rfl fun j y af=>?_⟩
    ·have hn: ¬pos<b.size:=by omega
     rw[iU]at he;simp[execOp,ao,he,Instr.next,Tk ae,hn]
    ·cases j with
     |zero=>simp at af;subst af;exact .fI rfl
     |succ j=>simp at af
theorem zf3(x:Operand)(ao:o.op= .next x true){id:Nat}(hx:aL G s x= .ref id){b:ByteArray}{pos:Nat}(bj:aE s.heap id=some (.bU (qt b pos)))(ak:pos<b.size){c k:Nat}(hd:Utf8.decode b pos=(c,k)):
 dY P G o s ({s with heap:=eU s.heap id (.bU (qt b (pos+k)))}.put o.dst (.tuple [.av (.v (.bool true)),.av (.v (.int .i64 (pos:Int))),.av (.v (.int .i32 (c:Int)))])):=by
 intro E a w ⟨β,ro,ag⟩ K Q hK
 have du:=ag.heap.dh id _ bj
 cases du with
 |bU _ Ev il aa ae au=>
  obtain⟨⟨b',gD⟩,rfl⟩:=au
  have ea:=ag.eval x
  rw[hx]at ea;generalize he:a.eval x=pe at ea
  cases ea with
  |ref _ _ _ hc=>
   have iU:=hc _ bj
   have pf:=aa
   rw[gD]at aa iU;simp only[cb,Option.some.injEq]at aa;subst aa;rw[iU]at he;unfold Oper.wp
   have cA:(execOp a.eval o).run P w= .ok (.value (.tuple #[.bool true,goInt pos,.int .i32 c])) {w with heap:=w.heap.setIfInBounds b' (.stringIter b (pos+k))}:=by
    simp[execOp,ao,he,Instr.next,Tk ae,ak,hd,zf0 _ ae]
   rw[cA]
   have bM:=(Array.getElem?_eq_some_iff.1 ae).1
   have hw:=ag.write (w':={w with heap:=w.heap.setIfInBounds b' (.stringIter b (pos+k))}) id _ (.bU (qt b (pos+k))) bj rfl rfl (.inr (.inr ⟨_,_,rfl,rfl⟩)) rfl rfl rfl (by simp) (fun j af b9=>by
    have:b'≠j:=fun e=>b9 (by rw[gD,←e];rfl)
    simp[Array.getElem?_setIfInBounds_ne this]) (.bU _ b' (.stringIter b (pos+k)) pf (by simp[bM]) ⟨⟨b',gD⟩,rfl⟩)
   refine hK _ _ ⟨β,ro,hw.put o.dst _ _ (.tuple _ _ rfl fun j y af=>?_)⟩
   match j,af with
   |0,af=>simp at af;subst af;exact .fI rfl
   |1,af=>simp at af;subst af;exact .fI rfl
   |2,af=>simp at af;subst af;exact .fI rfl
   |j+3,af=>simp at af
end
end Go.aN
namespace Go.aN
open Go
section
variable {P:Program} {G:bc} {o:Oper} {s:aQ} {E:Entry} {a:Act} {w w':World} {β:Nat→Value} {ro ro':Nat→Prop}
theorem dc.grow(h:dc E G s a w β ro)(o3:w'.os=w.os)(o4:w'.tape=w.tape)(kI:w'.output=w.output)(bV:w.heap.size≤w'.heap.size)(hw: ∀b,b<w.heap.size→w'.heap[b]? =w.heap[b]?)
 (cm: ∀b,ro b→ro' b)(fh: ∀b,ro' b→ro b∨(w.heap.size≤b∧b<w'.heap.size)):dc E G s a w' β ro':=by
 have aj: ∀b,ro b→w'.heap[b]? =w.heap[b]? :=fun b ad=>hw b (h.heap.lt b ad)
 refine⟨h.defers,h.size,fun i x hx=>(h.slot i x hx).keep aj cm (Nat.le_refl _) (fun _ t cs ah=>⟨rfl,t,cs,ah⟩) (fun _ z t _ es ah=>⟨rfl,z,t,es,ah⟩) (fun _ bW ah=>⟨rfl,bW,ah⟩),
  ⟨fun id il ah=>(h.heap.dh id il ah).keep aj cm (Nat.le_refl _) bV rfl (fun aq b ad=>hw b ((h.heap.dh id il ah).hO aq ad)) (fun _ t cs ah=>⟨rfl,t,cs,ah⟩) (fun _ z t _ es ah=>⟨rfl,z,t,es,ah⟩) (fun _ bW ah=>⟨rfl,bW,ah⟩),h.heap.inj,fun b ad ao=>?_,fun b ad=>?_⟩,
  h.ik.keep aj cm,?_,h.base⟩
 ·rcases fh b ad with aa|⟨aa,_⟩
  ·exact h.heap.fo b aa ao
  ·obtain⟨id,il,ah,aq,gD⟩:=ao
   have:=(h.heap.dh id il ah).hO aq gD
   omega
 ·rcases fh b ad with aa|⟨_,aa⟩
  ·exact Nat.lt_of_lt_of_le (h.heap.lt b aa) bV
  ·exact aa
 ·have t:=h.trans
  refine⟨o3.trans t.os,o4.trans t.tape,kI.trans t.output,Nat.le_trans t.size bV,fun b ad hn=>(hw b (Nat.lt_of_lt_of_le ad t.size)).trans (t.frame b ad hn),fun b ad=>?_,fun b ad=>cm b (t.j9 b ad),t.hp,t.dT,t.new,t.le⟩
  rcases fh b ad with aa|⟨aa,_⟩
  ·exact t.jo b aa
  ·exact .inr (.inr (Nat.le_trans t.size aa))
theorem dY.LX{t:TypeId}{n:Nat}{es:List (List ba)}(a6:xp P G o s t n es):dY P G o s (s.put o.dst (.av (.aP n es))):=by
 obtain⟨hn,h⟩:=a6
 intro E a w ⟨β,ro,ag⟩ K Q hK
 obtain⟨v,xs,w',cA,hG,c2,gN,e0⟩:=h E a w β ro ag
 unfold Oper.wp
 rw[cA]
 have hw: ∀b,b<w.heap.size→w'.heap[b]? =w.heap[b]? :=fun b ad=>c2.block b ad (by simp)
 have da:ij w' t n v es.length xs:=.En hG
 have ah:=ag.grow (ro':=fun b=>ro b∨cb v=some b) c2.os c2.tape c2.output c2.size hw (fun _ h=>.inl h) (fun b ad=>by
  rcases ad with h|h
  ·exact .inl h
  ·exact .inr ⟨gN b h,(da.hO h).1⟩)
 exact hK _ _ ⟨β,_,ah.put o.dst _ _ (.av _ _ (da.LW hn (fun j x af=>(e0 j x af).keep (fun b ad=>hw b (ag.heap.lt b ad)) fun _ h=>.inl h) fun b ad=>.inr ad))⟩
mutual
theorem Tl(d:Nat): ∀(x:aD),fJ x=true→qm d x=x∧gF 0 x=true
 | .av _,_=>⟨rfl,rfl⟩
 | .agg cs,h=>by
  have:=AW d cs (by simpa[fJ]using h)
  exact⟨by simp[qm,this.1],by simpa[gF]using this.2⟩
 | .tuple cs,h=>by
  have:=AW d cs (by simpa[fJ]using h)
  exact⟨by simp[qm,this.1],by simpa[gF]using this.2⟩
 | .fn f p q,h=>by
  simp only[fJ,Bool.and_eq_true]at h
  have aa:=AW d p h.1
  have ae:=AW d q h.2
  exact⟨by simp[qm,aa.1,ae.1],by simp[gF,aa.2,ae.2]⟩
 | .top,_=>⟨rfl,rfl⟩
 | .ptr _ _,h=>by simp[fJ]at h
 | .dF _ _,h=>by simp[fJ]at h
 | .c5 _ _ _,h=>by simp[fJ]at h
 | .aP _,h=>by simp[fJ]at h
 | .ref _,h=>by simp[fJ]at h
theorem AW(d:Nat): ∀(l:List aD),e7 l=true→lN d l=l∧k9 0 l=true
 |[],_=>⟨rfl,rfl⟩
 |x::r,h=>by
  simp only[e7,Bool.and_eq_true]at h
  have aa:=Tl d x h.1
  have ae:=AW d r h.2
  exact⟨by simp[lN,aa.1,ae.1],by simp[k9,aa.2,ae.2]⟩
end
theorem dY.zf4{x:Operand}{xs:Array Operand}{ts:Array TypeId}(ao:o.op= .call {callee:=.value x,args:=xs,argTypes:=ts}){f:FuncId}(hx:aL G s x= .fn (.func f) [] [])
 (gG:nd P f=true){args:List aD}(h8:xs.toList.map (fun y=>hQ s.heap (aL G s y))=args)(o9:e7 args=true){r:aD}(hc:dN P G f args [] 0 fun dI b0=>dI=r∧b0=[])(ag:fJ r=true)(ad:s.base≤s.next):
 dY P G o s (s.put o.dst r):=by
 obtain⟨LY,rM⟩:=Tl s.next r ag
 have:=dY.call (K:=0) ao hx gG h8 o9 hc (fun _ _ h=>h) rM rfl ad
 rw[LY]at this
 exact this
def jx(ks:List Nat)(l:List aD):List aD:=l.mapIdx fun i x=>if ks.contains i then x else .top
theorem AX(ks:List Nat)(l:List aD)(i:Nat):(jx ks l)[i]? =(l[i]?).map fun x=>if ks.contains i then x else .top:=by
 simp[jx]
theorem dc.mask(h:dc E G s a w β ro)(ks:List Nat):dc E G {s with c0:=jx ks s.c0} a w β ro:=by
 refine⟨h.defers,by simp[jx,h.size],fun i x hx=>?_,h.heap,h.ik,h.trans,h.base⟩
 simp only[AX]at hx
 cases hi:s.c0[i]? with
 |none=>simp[hi]at hx
 |some y=>
  simp only[hi,Option.map_some,Option.some.injEq]at hx
  split at hx
  ·subst hx;exact h.slot i y hi
  ·subst hx;exact .top _
def DStep(P:Program)(G:bc)(ops:Array Oper)(dx:aQ)(T:List aD)(o:Oper)(v:aD):Prop:=
 ∀s:aQ,s.heap=dx.heap→s.next=dx.next→s.base=dx.base→s.c0.length=T.length→(∀t∈o.looksAt ops,s.c0[t]? =T[t]?)→
  (dV ops s o=some true∧dY P G o s (s.put o.dst v))∨(dV ops s o=some false∧v= .tuple [])
theorem LZ{ks:List Nat}{l h7:List aD}(hlen:l.length=h7.length)(h: ∀t∈ks,l[t]? =h7[t]?):jx ks l=jx ks h7:=by
 apply List.ext_getElem?
 intro i
 rw[AX,AX]
 by_cases hi:i∈ks
 ·rw[h i hi]
 ·have hc:ks.contains i=false:=by simpa using hi
  simp only[hc]
  by_cases aq:i<l.length
  ·rw[List.getElem?_eq_getElem aq,List.getElem?_eq_getElem (by omega)];rfl
  ·rw[List.getElem?_eq_none (by omega),List.getElem?_eq_none (by omega)]
theorem L0{ops:Array Oper}{ks:List Nat}(aj: ∀j b,o.guard=some (j,b)→∀d,my ops j=some d→d∈ks):dV ops {s with c0:=jx ks s.c0} o=dV ops s o:=by
 unfold dV
 cases ah:o.guard with
 |none=>rfl
 |some L1=>
  obtain⟨j,b⟩:=L1;simp only
  cases hd:my ops j with
  |none=>rfl
  |some d=>
   have hm:ks.contains d=true:=by simpa using aj j b ah d hd
   simp only[AX]
   cases ai:s.c0[d]? with
   |none=>simp
   |some x=>simp only[Option.map_some,hm,if_true]
theorem L2{ops:Array Oper}(j:Nat)(b:Bool)(ah:o.guard=some (j,b))(d:Nat)(hd:my ops j=some d):d∈o.looksAt ops:=by
 unfold my at hd
 simp[Oper.looksAt,ah,hd]
theorem DStep.val{ops:Array Oper}{dx:aQ}{T:List aD}{v:aD}(ah:dV ops ⟨jx (o.looksAt ops) T,dx.heap,dx.next,dx.base⟩ o=some true)(ax:rL P G o ⟨jx (o.looksAt ops) T,dx.heap,dx.next,dx.base⟩=some v):DStep P G ops dx T o v:=by
 intro s aa ae au hlen bY
 have hm:=LZ hlen bY
 have dJ:({s with c0:=jx (o.looksAt ops) s.c0}:aQ)=⟨jx (o.looksAt ops) T,dx.heap,dx.next,dx.base⟩:=by rw[hm,←aa,←ae,←au]
 refine .inl ⟨by rw[←L0 (ks:=o.looksAt ops) L2,dJ];exact ah,cY.step fun E a w β ro ag=>?_⟩
 have ed:=ag.mask (o.looksAt ops)
 rw[dJ]at ed
 have:=LV ax E a w β ro ed
 simpa only[aa,ae]using this
theorem zf5{ks:List Nat}{y:Operand}(ay: ∀t,y= .tmp t→t∈ks):aL G {s with c0:=jx ks s.c0} y=aL G s y:=by
 cases y with
 |tmp t=>
  have hm:ks.contains t=true:=by simpa using ay t rfl
  simp only[aL,List.getD,AX]
  cases ai:s.c0[t]? with
  |none=>rfl
  |some x=>simp only[Option.map_some,hm,if_true]
 |_=>rfl
theorem DStep.of{ops:Array Oper}{dx:aQ}{T:List aD}{v:aD}(ah:dV ops ⟨jx (o.looksAt ops) T,dx.heap,dx.next,dx.base⟩ o=some true)
 (h: ∀s:aQ,s.heap=dx.heap→s.next=dx.next→s.base=dx.base→(∀y:Operand,(∀t,y= .tmp t→t∈o.looksAt ops)→aL G s y=aL G ⟨jx (o.looksAt ops) T,dx.heap,dx.next,dx.base⟩ y)→dY P G o s (s.put o.dst v)):DStep P G ops dx T o v:=by
 intro s aa ae au hlen bY
 have hm:=LZ hlen bY
 have dJ:({s with c0:=jx (o.looksAt ops) s.c0}:aQ)=⟨jx (o.looksAt ops) T,dx.heap,dx.next,dx.base⟩:=by rw[hm,←aa,←ae,←au]
 refine .inl ⟨by rw[←L0 (ks:=o.looksAt ops) L2,dJ];exact ah,h s aa ae au fun y ay=>?_⟩
 rw[←dJ]
 exact(zf5 ay).symm
end
end Go.aN
namespace Go.aN
open Go
def xu(l:List Oper)(sY:List aD)(qu:List aD)(E:Nat→Prop)(T:List aD):Prop:=
 T.length=qu.length∧∀t,t<qu.length→((∀j o,l[j]? =some o→E j→o.dst≠some t)→T[t]? =qu[t]?)∧(∀j o,l[j]? =some o→E j→o.dst=some t→T[t]? =sY[j]?)
theorem xu.same{l:List Oper}{sY qu T Tm:List aD}{E xv:Nat→Prop}(h:xu l sY qu E T)(h':xu l sY qu xv Tm)(t:Nat)(he: ∀j o,l[j]? =some o→o.dst=some t→(E j↔xv j)):T[t]? =Tm[t]? :=by
 by_cases aH:t<qu.length
 ·by_cases hx: ∃j o,l[j]? =some o∧E j∧o.dst=some t
  ·obtain⟨j,o,aa,ae,au⟩:=hx
   rw[(h.2 t aH).2 j o aa ae au,(h'.2 t aH).2 j o aa ((he j o aa au).1 ae) au]
  ·have aB: ∀j o,l[j]? =some o→E j→o.dst≠some t:=fun j o aa ae au=>hx ⟨j,o,aa,ae,au⟩
   have bl: ∀j o,l[j]? =some o→xv j→o.dst≠some t:=fun j o aa ae au=>hx ⟨j,o,aa,(he j o aa au).2 ae,au⟩
   rw[(h.2 t aH).1 aB,(h'.2 t aH).1 bl]
 ·rw[List.getElem?_eq_none (by have:=h.1;omega),List.getElem?_eq_none (by have:=h'.1;omega)]
def xw(T:List aD)(dst:Option Nat)(v:aD):List aD:=
 match dst with
 |some d=>T.set d v
 |none=>T
theorem zf6(T:List aD)(dst:Option Nat)(v:aD):(xw T dst v).length=T.length:=by
 cases dst<;>simp[xw]
theorem xu.put{l:List Oper}{sY qu T:List aD}{E:Nat→Prop}(h:xu l sY qu E T){i:Nat}{o:Oper}{v:aD}(hi:l[i]? =some o)(ax:sY[i]? =some v)
 (hd: ∀j p,l[j]? =some p→E j→p.dst≠none→p.dst≠o.dst){xv:Nat→Prop}(gV: ∀j,xv j↔E j∨j=i):xu l sY qu xv (xw T o.dst v):=by
 refine⟨by rw[zf6];exact h.1,fun t aH=>⟨fun hn=>?_,fun j p af L3 ak=>?_⟩⟩
 ·have aa:=(h.2 t aH).1 fun j p af L3=>hn j p af ((gV j).2 (.inl L3))
  cases qv:o.dst with
  |none=>exact aa
  |some d=>
   have b9:d≠t:=fun e=>hn i o hi ((gV i).2 (.inr rfl)) (by rw[qv,e])
   simp only[xw];rw[List.getElem?_set_ne b9]
   exact aa
 ·rcases (gV j).1 L3 with aa|aa
  ·have ae:=(h.2 t aH).2 j p af aa ak
   cases qv:o.dst with
   |none=>exact ae
   |some d=>
    have b9:d≠t:=fun e=>hd j p af aa (by rw[ak];simp) (by rw[ak,qv,e])
    simp only[xw];rw[List.getElem?_set_ne b9]
    exact ae
  ·subst aa
   rw[hi]at af;simp only[Option.some.injEq]at af;subst af;rw[ak];simp only[xw];rw[List.getElem?_set_self (by have:=h.1;omega),ax]
section
variable {P:Program} {G:bc} {dx:aQ}
abbrev xx(ops:Array Oper)(dx:aQ)(T:List aD)(o:Oper):aQ:=⟨jx (o.looksAt ops) T,dx.heap,dx.next,dx.base⟩
theorem DStep.row{ops:Array Oper}{T:List aD}{o:Oper}{t n:Nat}{es:List (List ba)}(ah:dV ops (xx ops dx T o) o=some true)(h:xp P G o (xx ops dx T o) t n es):DStep P G ops dx T o (.av (.aP n es)):=by
 intro s aa ae au hlen bY
 have hm:=LZ hlen bY
 have dJ:({s with c0:=jx (o.looksAt ops) s.c0}:aQ)=xx ops dx T o:=by rw[hm,aa,ae,au]
 refine .inl ⟨by rw[←L0 (ks:=o.looksAt ops) L2,dJ];exact ah,dY.LX (t:=t) ⟨h.1,fun E a w β ro ag=>?_⟩⟩
 have ed:=ag.mask (o.looksAt ops)
 rw[dJ]at ed
 exact h.2 E a w β ro ed
theorem DStep.call{ops:Array Oper}{T:List aD}{o:Oper}{x:Operand}{xs:Array Operand}{ts:Array TypeId}(ao:o.op= .call {callee:=.value x,args:=xs,argTypes:=ts})(ah:dV ops (xx ops dx T o) o=some true){f:FuncId}
 (hx:aL G (xx ops dx T o) x= .fn (.func f) [] [])(gG:nd P f=true){args:List aD}(h8:xs.toList.map (fun y=>hQ dx.heap (aL G (xx ops dx T o) y))=args)(o9:e7 args=true){r:aD}
 (hc:dN P G f args [] 0 fun dI b0=>dI=r∧b0=[])(ag:fJ r=true)(ad:dx.base≤dx.next):DStep P G ops dx T o r:=by
 refine DStep.of ah fun s aa ae au ay=>?_
 have Tn: ∀y:Operand,(y=x∨y∈xs)→∀t,y= .tmp t→t∈o.looksAt ops:=by
  intro y ay t aH;subst aH;refine List.mem_append_left _ (List.mem_filterMap.2 ⟨.tmp t,?_,rfl⟩)
  rw[ao];simp only[Op.operands,Call.operands]
  rcases ay with h|h
  ·rw[←h];simp
  ·simp[h]
 refine dY.zf4 ao (by rw[ay x (Tn x (.inl rfl))];exact hx) gG (args:=args) ?_ o9 hc ag (by rw[ae,au];exact ad)
 rw[←h8]
 apply List.map_congr_left
 intro y hm
 rw[aa,ay y (Tn y (.inr (by simpa using hm)))]
theorem DStep.cast{ops:Array Oper}{T:List aD}{o:Oper}{v bo:aD}(h:DStep P G ops dx T o v)(e:v=bo):DStep P G ops dx T o bo:=e ▸ h
end
end Go.aN
namespace Go.aN
open Go
section
variable {P:Program} {G:bc} {o:Oper} {s:aQ}
def u4(P:Program)(t:TypeId):Option (TypeId × Nat × List Value):=
 match P.underlying t with
 |some (.slice e)=>match P.info? e,zeroCells P e with
  |some i,some zs=>if zs.all Value.oneCell'∧zs.length=i.size∧0<i.size then some (e,i.size,zs)else none
  |_,_=>none
 |_=>none
def n9(P:Program)(G:bc)(s:aQ)(t:TypeId)(len:Nat)(parts:List (Nat × Operand)):Option (TypeId × Nat × List (List ba)):=
 match u4 P t with
 |some (e,n,zs)=>
  if len=0 then(if parts.isEmpty then some (e,n,[])else none)
  else if len*n≤16777216∧(parts.map fun p=>(p.1,aL G s p.2)).all (fun p=>(c1 p.2).all (eJ s.heap))then
   match kf (fun i=>some (i*n,n)) ((List.replicate len (zs.map fun z=>aD.av (.v z))).flatten) (parts.map fun p=>(p.1,aL G s p.2))with
   |some ds=>match iS ds with
    |some rs=>some (e,n,chunk n len rs)
    |none=>none
   |none=>none
  else none
 |none=>none
theorem Ew{t:TypeId}{len:Nat}{parts:Array (Nat × Operand)}(ao:o.op= .buildSlice t len parts){e n:Nat}{es:List (List ba)}(h:n9 P G s t len parts.toList=some (e,n,es)):xp P G o s e n es:=by
 unfold n9 at h
 split at h
 ·rename_i az cS zs aH
  unfold u4 at aH
  split at aH
  ·rename_i bl hu
   split at aH
   ·rename_i i zf7 hi aT
    split at aH
    ·rename_i hc
     simp only[Option.some.injEq,Prod.mk.injEq]at aH;obtain⟨rfl,rfl,rfl⟩:=aH
     split at h
     ·rename_i hlen
      subst hlen
      split at h
      ·rename_i ak
       simp only[Option.some.injEq,Prod.mk.injEq]at h;obtain⟨rfl,rfl,rfl⟩:=h;refine⟨by simp,fun E a w β ro ag=>⟨.slice (some ⟨w.heap.size,0,none⟩) 0 0,[],w.alloc (.cells #[] bl),?_,?_,World.grownBy_alloc w _ none,fun b ad=>by simp[cb]at ad,by simp⟩⟩
       ·have gO:parts= #[]:=by
         apply Array.ext';simpa using ak
        subst gO;simp[execOp,ao,Instr.buildSlice,run_underlying hu,sizeOf,typeInfo,hi,Instr.fill,newRow,Sem.run_bind,Array.range_zero']
       ·exact World.ownsRow_lit w #[] 0 (Nat.zero_le _) (Nat.zero_le _) (by simp)
      ·cases h
     ·rename_i hlen
      split at h
      ·rename_i LO
       split at h
       ·rename_i ds hf
        split at h
        ·rename_i rs gi
         simp only[Option.some.injEq,Prod.mk.injEq]at h;obtain⟨rfl,rfl,rfl⟩:=h
         have zf8:0<len*i.size:=Nat.mul_pos (Nat.pos_of_ne_zero hlen) hc.2.2
         exact zfN t len parts ao hu (by simp[hi]) aT hc.1 hc.2.1 ⟨zf8,LO.1⟩ rfl LO.2 hf gi
        ·cases h
       ·cases h
      ·cases h
    ·cases aH
   ·cases aH
  ·cases aH
 ·cases h
end
theorem zf9{k:Nat}(h:k+1≤9223372036854775807):IntKind.i64.wrap ((k:Int)+1)=((k+1:Nat):Int):=by
 rw[gx _ (by omega) (by omega)]
 rfl
end Go.aN
namespace Go.aN
open Go
def xy(m:Option Nat):aD→aD
 | .av (.v (.slice none 0 0))=>match m with
  |some n=>.av (.aP n [])
  |none=>.av (.v (.slice none 0 0))
 |x=>x
def rN:List (Option Nat)→List aD→List aD
 |m::ms,c::cs=>xy m c::rN ms cs
 |_,cs=>cs
def L4(m:List (Option Nat)):aD→aD
 | .agg cs=>.agg (rN m cs)
 |x=>xy (m.headD none) x
def aQ.AY(s:aQ)(k:Nat)(m:List (Option Nat)):aQ:=
 {s with c0:=match s.c0[k]? with|some x=>s.c0.set k (L4 m x)|none=>s.c0}
theorem To{w:World}{ro:Nat→Prop}{σ:Heap}{β:Nat→Value}{N:Nat}{m:Option Nat}{x:aD}{c:Value}(h:bG w ro σ β N x c):bG w ro σ β N (xy m x) c:=by
 unfold xy
 split
 ·cases m with
  |none=>exact h
  |some n=>
   refine .av _ _ ?_
   cases h with
   |av _ _ h=>
    cases h;exact .aP n [] none 0 (fun _=>undef) (Nat.le_refl _) (Nat.zero_le _) (by simp) (by simp) (by simp)
 ·exact h
theorem zga{m:List (Option Nat)}{cs:List aD}{j:Nat}{x:aD}(h:(rN m cs)[j]? =some x): ∃y p,cs[j]? =some y∧x=xy p y:=by
 induction m generalizing cs j with
 |nil=>exact⟨x,none,by simpa[rN]using h,by unfold xy;split<;>rfl⟩
 |cons a m aZ=>
  cases cs with
  |nil=>simp[rN]at h
  |cons c cs=>
   cases j with
   |zero=>simp[rN]at h;exact⟨c,a,rfl,h.symm⟩
   |succ j=>simp only[rN,List.getElem?_cons_succ]at h⊢;exact aZ h
theorem zgb(m:List (Option Nat))(cs:List aD):(rN m cs).length=cs.length:=by
 induction m generalizing cs with
 |nil=>rfl
 |cons a m aZ=>cases cs<;>simp[rN,aZ]
theorem zgc{w:World}{ro:Nat→Prop}{σ:Heap}{β:Nat→Value}{N:Nat}{m:List (Option Nat)}{x:aD}{c:Value}(h:bG w ro σ β N x c):bG w ro σ β N (L4 m x) c:=by
 unfold L4
 split
 ·cases h with
  |agg cs c aa ae=>
   refine .agg _ _ (by rw[aa,zgb]) fun j y af=>?_
   obtain⟨z,p,aT,rfl⟩:=zga af;exact To (ae j z aT)
 ·exact To h
theorem cw.AY{s bF:aQ}(k:Nat)(m:List (Option Nat))(h:s.AY k m=bF):cw s bF:=by
 subst h
 intro E G a w ⟨β,ro,h⟩
 unfold aQ.AY
 cases aj:s.c0[k]? with
 |none=>exact⟨β,ro,h⟩
 |some x=>
  refine⟨β,ro,h.defers,by simp[h.size],fun i y ay=>?_,h.heap,h.ik,h.trans,h.base⟩
  rw[List.getElem?_set]at ay
  split at ay
  ·rename_i e
   subst e
   split at ay
   ·simp only[Option.some.injEq]at ay
    subst ay;exact zgc (h.slot k x aj)
   ·cases ay
  ·exact h.slot i y ay
end Go.aN
namespace Go.aN
open Go
theorem cw.zgd{s bF:aQ}(k e n:Nat)(aj:s.c0[k]? =some (.av (.v (.slice none 0 0))))(ad:s.base≤s.next)
 (h:({s with c0:=s.c0.set k (.aP s.next),heap:=(s.next,.row false e n [])::s.heap,next:=s.next+1}:aQ)=bF):cw s bF:=by
 subst h
 intro E G a w ⟨β,ro,ag⟩
 have jq:aE s.heap s.next=none:=by
  cases ah:aE s.heap s.next with
  |none=>rfl
  |some p=>have:=ag.trans.new _ _ ah;omega
 have sZ:=bG.val (ag.slot k _ aj)
 have fh:=ag.new (w':=w) s.next jq ad (Nat.le_refl _) (.row false e n []) (.slice none 0 0) rfl rfl rfl (Nat.le_refl _) (fun _ _=>rfl) (fun c hc=>by simp[cb]at hc) rfl
  (.row e n [] [] (by rw[dZ];exact⟨by simp,.inl ⟨⟨none,rfl,fun _ h=>(by cases h)⟩,rfl⟩⟩) (by simp) (by simp))
 refine⟨_,ro,fh.defers,by simpa using fh.size,fun i y ay=>?_,fh.heap,fh.ik,fh.trans,fh.base⟩
 rw[List.getElem?_set]at ay
 split at ay
 ·rename_i aB
  subst aB
  split at ay
  ·simp only[Option.some.injEq]at ay
   subst ay;refine .aP _ _ (Nat.lt_succ_self _) fun z bL cS dX _=>?_
   rw[sZ];exact(dZ _ _ _).symm
  ·cases ay
 ·exact fh.slot i y ay
end Go.aN
namespace Go.aN
open Go
def u5(σ:Heap):aD→Option ba
 | .av x=>some x
 | .aP id=>match aE σ id with
  |some (.row _ _ n es)=>some (.aP n es)
  |_=>none
 | .ref id=>match aE σ id with
  |some (.bU bW)=>bW.view
  |_=>none
 |_=>none
def AZ(σ:Heap):List aD→Option (List ba)
 |[]=>some []
 |x::r=>match u5 σ x,AZ σ r with
  |some y,some l=>some (y::l)
  |_,_=>none
mutual
def jT(σ:Heap):aD→aD
 | .aP id=>match aE σ id with
  |some (.row _ _ n es)=>.av (.aP n es)
  |_=>.aP id
 | .ptr id off=>match aE σ id with
  |some (.box _ cs)=>(match AZ σ (cs.drop off)with
   |some l=>.av (.ptr l)
   |none=>.ptr id off)
  |_=>.ptr id off
 | .agg cs=>.agg (ib σ cs)
 | .tuple cs=>.tuple (ib σ cs)
 | .fn f p q=>.fn f (ib σ p) (ib σ q)
 | .av x=>.av x
 | .c5 id i off=>.c5 id i off
 | .dF id n=>.dF id n
 | .ref id=>match aE σ id with
  |some (.bU bW)=>(match bW.view with
   |some x=>.av x
   |none=>.ref id)
  |_=>.ref id
 | .top=>.top
def ib(σ:Heap):List aD→List aD
 |[]=>[]
 |x::r=>jT σ x::ib σ r
end
theorem u6(σ:Heap): ∀(l:List aD),(ib σ l).length=l.length
 |[]=>rfl
 |x::r=>by simp[ib,u6 σ r]
theorem u7(σ:Heap): ∀{l:List aD} {j:Nat} {x:aD},(ib σ l)[j]? =some x→∃y,l[j]? =some y∧x=jT σ y
 |[],j,x,h=>by simp[ib]at h
 |y::r,j,x,h=>by
  cases j with
  |zero=>simp[ib]at h;exact⟨y,by simp,h.symm⟩
  |succ j=>simp[ib]at h;simpa using u7 σ h
theorem Tp(σ:Heap): ∀{l:List aD} {m:List ba},AZ σ l=some m→∀{j:Nat} {x:ba},m[j]? =some x→∃y,l[j]? =some y∧u5 σ y=some x
 |[],m,h,j,x,af=>by simp[AZ]at h;subst h;simp at af
 |y::r,m,h,j,x,af=>by
  simp only[AZ]at h
  split at h
  ·rename_i z l aa ae
   simp only[Option.some.injEq]at h;subst h
   cases j with
   |zero=>simp at af;subst af;exact⟨y,rfl,aa⟩
   |succ j=>simp at af;simpa using Tp σ ae af
  ·cases h
abbrev u9(ro:Nat→Prop)(σ:Heap)(β:Nat→Value):Nat→Prop:=fun b=>ro b∨Own σ β b
theorem Tq{w:World}{ro:Nat→Prop}{σ:Heap}{β:Nat→Value}{N id:Nat}(a6:ho w ro σ β N){z:Bool}{t:TypeId}{n:Nat}{es:List (List ba)}(ah:aE σ id=some (.row z t n es)):cZ w (u9 ro σ β) (.aP n es) (β id):=by
 have ao:=a6.dh id _ ah
 cases ao with
 |row t n es xs aa ae au=>exact aa.LW ae (fun j x af=>(au j x af).keep (fun _ _=>rfl) fun _ h=>.inl h) fun b ad=>.inr ⟨id,_,ah,rfl,ad⟩
 |gf t n es aa=>exact aa.keep (fun _ _=>rfl) fun _ h=>.inl h
theorem Tr{w:World}{ro:Nat→Prop}{σ:Heap}{β:Nat→Value}{N id:Nat}(a6:ho w ro σ β N){bW:xe}(ah:aE σ id=some (.bU bW)){av:ba}(ax:bW.view=some av):cZ w (u9 ro σ β) av (β id):=by
 have ao:=a6.dh id _ ah
 cases ao with
 |bU _ b o aa ae au=>exact bW.Sh av ax w ro _ _ o b au aa ae (fun _ h=>.inl h) (.inr ⟨id,_,ah,rfl,aa⟩)
theorem zge{w:World}{ro:Nat→Prop}{σ:Heap}{β:Nat→Value}{N:Nat}(a6:ho w ro σ β N){x:aD}{c:Value}{y:ba}(h:bG w ro σ β N x c)(ay:u5 σ x=some y):cZ w (u9 ro σ β) y c:=by
 cases h with
 |av x c hx=>
  simp only[u5,Option.some.injEq]at ay;subst ay;exact hx.keep (fun _ _=>rfl) fun _ h=>.inl h
 |aP id c aq ak=>
  simp only[u5]at ay
  split at ay
  ·rename_i z t n es ah
   simp only[Option.some.injEq]at ay;subst ay;rw[ak z t n es ah];exact Tq a6 ah
  ·cases ay
 |ref id c aq ak=>
  simp only[u5]at ay
  split at ay
  ·rename_i bW ah
   rw[ak bW ah];exact Tr a6 ah ay
  ·cases ay
 |_=>cases ay
theorem L5{w:World}{ro:Nat→Prop}{σ:Heap}{β:Nat→Value}{N:Nat}(a6:ho w ro σ β N){x:aD}{c:Value}(h:bG w ro σ β N x c):bG w (u9 ro σ β) σ β N (jT σ x) c:=by
 induction h with
 |aP id c aq ak=>
  simp only[jT]
  split
  ·rename_i z t n es ah
   rw[ak z t n es ah];exact .av _ _ (Tq a6 ah)
  ·exact .aP id c aq ak
 |ptr id off c aq ak=>
  simp only[jT]
  split
  ·rename_i t cs ah
   split
   ·rename_i l L6
    obtain⟨b,ad,rfl⟩:=ak t cs ah
    have ao:=a6.dh id _ ah
    cases ao with
    |box t cs b' arr aB bl cx eR=>
     rw[ad]at aB;simp only[Value.pointer.injEq,Option.some.injEq,Addr.mk.injEq,and_true]at aB;subst aB
     have at_: ∀j x,l[j]? =some x→∃y,cs[off+j]? =some y∧u5 σ y=some x:=fun j x af=>by
      obtain⟨y,aa,ae⟩:=Tp σ L6 af;rw[List.getElem?_drop]at aa
      exact⟨y,aa,ae⟩
     refine .av _ _ (.ptr l _ (fun j=>arr.getD (off+j) undef) (fun j x af=>?_) fun j x af=>?_)
     ·obtain⟨y,aa,_⟩:=at_ j x af
      refine⟨.inr ⟨id,_,ah,rfl,by rw[ad];rfl⟩,?_⟩
      have bM:off+j<arr.size:=by rw[cx];exact(List.getElem?_eq_some_iff.1 aa).1
      rw[addLit,cell_of_row w b (off+j) arr t (0,0) bl];simp[bM]
     ·obtain⟨y,aa,ae⟩:=at_ j x af
      exact zge a6 (eR _ y aa) ae
   ·exact .ptr id off c aq ak
  ·exact .ptr id off c aq ak
 |av x c h=>exact .av x c (h.keep (fun _ _=>rfl) fun _ h=>.inl h)
 |agg cs c aa _ aZ=>
  refine .agg _ c (by rw[u6];exact aa) fun j x af=>?_
  obtain⟨y,ay,rfl⟩:=u7 σ af;exact aZ j y ay
 |tuple cs c aa _ aZ=>
  refine .tuple _ c (by rw[u6];exact aa) fun j x af=>?_
  obtain⟨y,ay,rfl⟩:=u7 σ af;exact aZ j y ay
 |c5 id i off c aa ae=>exact .c5 id i off c aa ae
 |dF id n c aa ae=>exact .dF id n c aa ae
 |fn f p q c d aa ae _ _ hq hr=>
  refine .fn f _ _ c d (by rw[u6];exact aa) (by rw[u6];exact ae) (fun j x af=>?_) (fun j x af=>?_)
  ·obtain⟨y,ay,rfl⟩:=u7 σ af
   exact hq j y ay
  ·obtain⟨y,ay,rfl⟩:=u7 σ af
   exact hr j y ay
 |ref id c aq ak=>
  simp only[jT]
  split
  ·rename_i bW ah
   split
   ·rename_i av ax
    rw[ak bW ah];exact .av _ _ (Tr a6 ah ax)
   ·exact .ref id c aq ak
  ·exact .ref id c aq ak
 |top c=>exact .top c
mutual
def jU:aD→Bool
 | .av (.v _)=>true
 | .agg cs=>ni cs
 | .tuple cs=>ni cs
 |_=>false
def ni:List aD→Bool
 |[]=>true
 |x::r=>jU x&&ni r
end
theorem Ex: ∀{cs:List aD},ni cs=true→∀{j:Nat} {x:aD},cs[j]? =some x→jU x=true
 |[],_,j,x,h=>by simp at h
 |y::r,ad,j,x,h=>by
  simp only[ni,Bool.and_eq_true]at ad
  cases j with
  |zero=>simp at h;subst h;exact ad.1
  |succ j=>simp at h;exact Ex ad.2 h
theorem Ey{w w':World}{ro ro':Nat→Prop}{σ b0:Heap}{β AJ:Nat→Value}{N M:Nat}{x:aD}{c:Value}(h:bG w ro σ β N x c)(ak:jU x=true):bG w' ro' b0 AJ M x c:=by
 induction h with
 |av x c h=>
  cases h with
  |v _ hx=>exact .av _ _ (.v _ hx)
  |ptr=>simp[jU]at ak
  |aP=>simp[jU]at ak
  |mp=>simp[jU]at ak
  |eB=>simp[jU]at ak
  |li=>simp[jU]at ak
 |agg cs c aa _ aZ=>
  simp only[jU]at ak;exact .agg cs c aa fun j x af=>aZ j x af (Ex ak af)
 |tuple cs c aa _ aZ=>
  simp only[jU]at ak;exact .tuple cs c aa fun j x af=>aZ j x af (Ex ak af)
 |_=>simp[jU]at ak
section
variable {P:Program} {G:bc} {s:aQ}
theorem dY.L7{o:Oper}{x:Operand}{xs:Array Operand}{ts:Array TypeId}(ao:o.op= .call {callee:=.value x,args:=xs,argTypes:=ts}){f:FuncId}{p q:List aD}(hx:aL G s x= .fn (.func f) p q)
 (gG:nd P f=true){args:List aD}(h8:ib s.heap (p++xs.toList.map (aL G s)++q)=args)(o9:e7 args=true){r:aD}(hc:dN P G f args [] 0 fun dI va=>dI=r∧va=[])(hsc:jU r=true):
 dY P G o s (s.put o.dst r):=by
 intro E a w ⟨β,ro,h⟩ zfF zfG LG
 have lO:=h.eval x
 rw[hx]at lO
 generalize he:a.eval x=LH at lO
 cases lO with
 |fn _ _ _ c d aa ae ak aK=>
  unfold Oper.wp;simp only[execOp,ao,resolve,he,Deferred.ofValue,Sem.run_bind,Sem.run_pure,Result.andThen_ok,invoke];rw[Eh gG]
  have n2: ∀b,Own s.heap β b→b<w.heap.size:=fun b ⟨k,p,aj,ak,bk⟩=>(h.heap.dh k p aj).hO ak bk
  have hlen:args.length=p.length+xs.size+q.length:=by rw[←h8,u6];simp[Nat.add_assoc]
  have eh: ∀i y,(p++xs.toList.map (aL G s)++q)[i]? =some y→bG w ro s.heap β s.next y ((c++xs.map a.eval++d).getD i undef):=fun i y ay=>by
   rw[Array.getD_eq_getD_getElem?]
   rcases Nat.lt_or_ge i (p.length+xs.size)with hi|hi
   ·rw[List.getElem?_append_left (by simpa using hi)]at ay
    rw[Array.getElem?_append_left (by simpa[aa]using hi)]
    rcases Nat.lt_or_ge i p.length with mE|mE
    ·rw[List.getElem?_append_left mE]at ay
     rw[Array.getElem?_append_left (by omega),←Array.getD_eq_getD_getElem?]
     exact ak i y ay
    ·rw[List.getElem?_append_right mE,List.getElem?_map]at ay
     rw[Array.getElem?_append_right (by omega),aa]
     cases aT:xs.toList[i-p.length]? with
     |none=>simp[aT]at ay
     |some z=>
      simp only[aT,Option.map_some,Option.some.injEq]at ay;subst ay
      have pg:xs[i-p.length]? =some z:=by simpa using aT
      simp only[Array.getElem?_map,pg,Option.map_some,Option.getD_some]
      exact h.eval z
   ·rw[List.getElem?_append_right (by simpa using hi)]at ay
    rw[Array.getElem?_append_right (by simpa[aa]using hi),←Array.getD_eq_getD_getElem?]
    have:=aK _ y ay
    simpa[aa]using this
  have hs:=hc w β (u9 ro s.heap β) (c++xs.map a.eval++d) (by simp only[Array.size_append,Array.size_map];omega) (fun i y ay=>by
   rw[←h8]at ay;obtain⟨z,aT,rfl⟩:=u7 _ ay
   exact n5 (L5 h.heap (eh i z aT)) (nc o9 (by rw[←h8];exact ay))) ⟨by simp[aE],by simp[aE],fun b _ ⟨_,_,ah,_⟩=>by simp[aE]at ah,fun b ad=>ad.elim (h.heap.lt b) (n2 b)⟩
   (h.ik.keep (fun _ _=>rfl) fun _ h=>.inl h) (by simp[aE])
  refine Calls.mono hs fun e w' aK=>?_
  obtain⟨v,eY,fK,dU,ro',cS,rfl,⟨rfl,rfl⟩,dG,hR,cN⟩:=aK
  have ld: ∀b,¬Own ([]:Heap) β b:=fun b ⟨_,_,ah,_⟩=>by simp[aE]at ah
  have lP: ∀b,b<w.heap.size→w'.heap[b]? =w.heap[b]? :=fun b ad=>cN.frame b ad (ld b)
  have ah:=h.grow (w':=w') (ro':=ro) cN.os cN.tape cN.output cN.size lP (fun _ h=>h) (fun _ h=>.inl h)
  exact LG _ _ ⟨β,ro,ah.put o.dst _ _ (Ey dG hsc)⟩
theorem zgf{o:Oper}{f:FuncId}{p q:Array Operand}(ao:o.op= .makeFunc (.func f) p q):cY P G o s (.fn (.func f) (p.toList.map (aL G s)) (q.toList.map (aL G s))):=
 fun _ a w β ro ag=>by
  refine⟨.func (.func f) (p.map a.eval) (q.map a.eval),by simp[execOp,ao,Instr.makeFunc],.fn _ _ _ _ _ (by simp) (by simp) (fun j x af=>?_) (fun j x af=>?_)⟩<;>
  ·rw[List.getElem?_map]at af
   rw[Array.getD_eq_getD_getElem?,Array.getElem?_map]
   simp only[Array.getElem?_toList]at af
   obtain⟨z,aT,rfl⟩:=Option.map_eq_some_iff.1 af;simp only[aT,Option.map_some,Option.getD_some];exact ag.eval z
end
end Go.aN
namespace Go.aN
open Go
inductive Hint (P:Program) (G:bc):Type 1 where
 |run (n:Nat)
 |cast (u v:aD) (h:u=v)
 |idx {α:Type} (C:α→List ba) (l:List α) (n j:Nat) (e:α) (h:l[j]? =some e)
 |Ts (b:ByteArray) (j:Nat) (u:UInt8) (h:b.data.toList[j]? =some u)
 |len {α:Type} (C:α→List ba) (l:List α) (n:Nat)
 |call (f:FuncId) (args:List aD) (r:aD) (b0:Heap) (K:Nat) (h:dN P G f args [] 0 fun dI va=>dI=r∧va=b0)
 |take {α:Type} (C:α→List ba) (l:List α) (n k:Nat) (h:k≤l.length)
 |Tt {α:Type} (C:α→List ba) (l:List α) (e n:Nat)
 |app {α:Type} (C:α→List ba) (l m:List α) (id e n bytes:Nat) (h:l.length+m.length≤maxLen∧(l.length+m.length)*bytes≤140737488355328)
 |Tu (mx:Bool) (a b:Int)
 |lit (e n:Nat) (es:List (List ba))
 |row (e n:Nat) (es:List (List ba))
 |Tv (b:ByteArray)
 |AY (k:Nat) (m:List (Option Nat))
 |nh (id:Nat)
 |Tw {α:Type} (C:α→List ba) (l:List α) (id n j:Nat) (h:j<l.length)
 |Tx {α:Type} (C:α→List ba) (l:List α) (id n:Nat)
 |Ty {α:Type} (C:α→List ba) (l:List α) (id n j off k:Nat) (e:α) (h:l[j]? =some e)
 |Tz {α:Type} (C:α→List ba) (l:List α) (id n j off:Nat) (e:α) (h:l[j]? =some e)
 |mk {α:Type} (C:α→List ba) (d:α) (m c e n bytes:Nat) (h:m≤c∧c≤maxLen∧bytes*c≤281474976710656)
 |TA (j:Nat)
 |TB {α:Type} (C:α→List ba) (l:List α) (n:Nat) (lo hi:Option Nat) (aa:lo.getD 0≤hi.getD l.length) (ae:hi.getD l.length≤l.length)
 |TC (b:ByteArray) (lo hi:Option Nat) (aa:lo.getD 0≤hi.getD b.size) (ae:hi.getD b.size≤b.size)
 |slot (k:Nat) (u v:aD) (h:u=v)
 |L8 (k e n:Nat)
 |TD {α:Type} (C:α→List ba) (l:List α) (id n j off:Nat) (e:α) (h:l[j]? =some e)
 |TE {α:Type} (C:α→List ba) (l:List α) (id n j off:Nat) (e az:α) (h:l[j]? =some e)
 |TF
 |L7 (f:FuncId) (p q args:List aD) (r:aD) (h:dN P G f args [] 0 fun dI va=>dI=r∧va=[])
def xz:ba→ba
 | .aP _ []=>.v (.slice none 0 0)
 | .li _ []=>.v (.slice none 0 0)
 |x=>x
theorem TG{w:World}{ro:Nat→Prop}{x:ba}{v:Value}(h:xz x= .v v)(ax:v.oneCell'=true):cZ w ro x v:=by
 unfold xz at h
 split at h
 ·rename_i n
  simp only[ba.v.injEq]at h;subst h;exact .aP n [] none 0 (fun _=>undef) (Nat.le_refl _) (Nat.zero_le _) (by simp) (by simp) (by simp)
 ·rename_i i
  simp only[ba.v.injEq]at h;subst h;exact .li i [] _ (.aP (b4 i) [] none 0 (fun _=>undef) (Nat.le_refl _) (Nat.zero_le _) (by simp) (by simp) (by simp))
 ·subst h
  exact .v _ ax
section
variable {P:Program} {G:bc} {o:Oper} {s:aQ}
theorem zgg{α:Type}(C:α→List ba)(d:α)(m c:Nat){t:TypeId}{x y:Operand}(ao:o.op= .makeSlice t x y){e n bytes:Nat}(aH:qo P t=some (e,n,bytes)){zs:List Value}(aT:zeroCells P e=some zs)(sU:zs.all Value.oneCell'=true)
 (hd:zs.map ba.v=(C d).map xz)(hx:aL G s x=iT (m:Int))(ay:aL G s y=iT (c:Int))(bV:m≤c∧c≤maxLen∧bytes*c≤281474976710656):
 xp P G o s e n ((List.replicate m d).map C):=by
 obtain⟨i,z,hu,hi,TH,iF,jw,fe,hn⟩:=qb aH
 obtain⟨iE,_,o6,AN,ht,pg⟩:=AB (P:=P) aT default
 have TI:z.cells=zs.toArray:=by
  rw[hi]at ht;simp only[Option.some.injEq]at ht;subst ht;rw[TH]at pg;simp only[Option.some.injEq]at pg;subst pg;exact o6
 have mB:zs.length=n:=by rw[←fe,TI];simp
 have n7:(C d).length=n:=by rw[←mB];have:=congrArg List.length hd;simpa using this.symm
 have n1: ∀q∈(List.replicate m d).map C,q.length=n:=by
  intro q aK;rw[List.mem_map]at aK;obtain⟨u,hu,rfl⟩:=aK;rw[List.mem_replicate]at hu;rw[hu.2];exact n7
 refine⟨n1,fun E a w β ro ag=>?_⟩
 have L9:(c:Int)≤9223372036854775807:=by
  have h:=bV.2.1
  simp only[maxLen]at h;omega
 have AU:(i.bytes:Int)*(c:Int)≤281474976710656:=by
  have h:((i.bytes*c:Nat):Int)≤281474976710656:=by rw[jw];have:=bV.2.2;omega
  rwa[Int.natCast_mul]at h
 have cA:=run_make (P:=P) w t e i z hu hi TH .i64 .i64 (m:Int) (c:Int) (by omega) (by have:=bV.1;omega) AU L9
 simp only[Int.toNat_natCast,iF]at cA
 refine⟨.slice (some ⟨w.heap.size,0,none⟩) m c,(madeCells z.cells (c*n)).toList.take (m*n),_,by simp only[execOp,ao,ag.en hx,ag.en ay,Sem.run_bind,cA,Result.andThen_ok,Sem.run_pure],⟨?_,.inr ⟨w.heap.size,c,madeCells z.cells (c*n),by rw[List.length_map,List.length_replicate],Nat.zero_le _,heap_alloc_new w _,by rw[List.length_map,List.length_replicate];exact bV.1,bV.2.1,size_madeCells _ _,by rw[List.length_map,List.length_replicate]⟩⟩,World.grownBy_alloc w _ none,fun b bk=>?_,fun j x af=>?_⟩
 ·rw[List.length_take,Array.length_toList,size_madeCells,List.length_map,List.length_replicate,Nat.min_eq_left (Nat.mul_le_mul_right _ bV.1)]
 ·simp only[cb]at bk
  split at bk
  ·cases bk
  ·simp at bk;omega
 ·have cW:j<m*n:=by
   have:=(List.getElem?_eq_some_iff.1 af).1
   rwa[ka n1,List.length_map,List.length_replicate]at this
  have hm:j=(j/ n)*n+j%n:=by rw[Nat.mul_comm];exact(Nat.div_add_mod j n).symm
  have n6:j%n<n:=Nat.mod_lt _ hn
  have zgh:j/ n<m:=by rw[Nat.div_lt_iff_lt_mul hn];exact cW
  rw[hm,rq n1 (i:=j/ n) (e:=C d) (by simp[zgh]) (j%n) n6]at af
  have au:j%n<zs.length:=by omega
  have AA:j<c*n:=Nat.lt_of_lt_of_le cW (Nat.mul_le_mul_right _ bV.1)
  have aB:((madeCells z.cells (c*n)).toList.take (m*n)).getD j undef=zs[j%n]:=by
   simp[List.getD,cW,madeCells,TI,AA,mB,List.getElem?_eq_getElem au]
  rw[aB]
  have TJ:=congrArg (·[j%n]?) hd
  simp only[List.getElem?_map,af,List.getElem?_eq_getElem au,Option.map_some,Option.some.injEq]at TJ
  refine TG TJ.symm ?_
  rw[List.all_eq_true]at sU;exact sU _ (List.getElem_mem au)
end
section
variable {P:Program} {G:bc} {o:Oper} {s:aQ}
theorem TK(j:Nat){t:TypeId}{x i:Operand}(ao:o.op= .index t x i){len e:Nat}(hu:P.underlying t=some (.array len e))(hsc:scalar P e=true)(bV:(P.info? e).map (·.size)=some 1)(hi:aL G s i=iT (j:Int)){cs:List aD}(hx:aL G s x= .agg cs){v:aD}(ax:cs[j]? =some v)(af:j<len):cY P G o s v:=
 fun _ a w β ro ag=>by
  have h:=ag.eval x
  rw[hx]at h;generalize he:a.eval x=c at h
  cases h with
  |agg _ c ai hc=>
   have bM:j<c.size:=by have:=(List.getElem?_eq_some_iff.1 ax).1;omega
   have AQ:(sizeOf e).run P w= .ok 1 w:=by
    cases hi:P.info? e with
    |none=>simp[hi]at bV
    |some i=>simp[hi]at bV;simp[sizeOf,typeInfo,hi,bV]
   refine⟨c[j],?_,by simpa[bM]using hc _ v ax⟩
   simp[execOp,ao,he,ag.en hi,Instr.index,asIntOf,run_underlying hu,AQ,part,Av hsc,bM,af]
end
section
variable {P:Program} {G:bc}
def Ez:Hint P G→aD
 | .run _=>.top
 | .cast u _ _=>u
 | .idx C l n j _ _=>.tuple [.av (.aP n (l.map C)),iT (j:Int)]
 | .Ts b j _ _=>.tuple [vs b,iT (j:Int)]
 | .len C l n=>.av (.aP n (l.map C))
 | .call f args _ _ _ _=>.tuple (.fn (.func f) [] []::args)
 | .take C l n k _=>.tuple [.av (.aP n (l.map C)),iT (k:Int)]
 | .Tt C l _ n=>.av (.aP n (l.map C))
 | .app C l m id _ n _ _=>.tuple [.aP id,.av (.aP n (l.map C)),.av (.aP n (m.map C))]
 | .Tu _ a b=>.tuple [iT a,iT b]
 | .lit _ n es=>.av (.aP n es)
 | .row _ n es=>.av (.aP n es)
 | .Tv b=>vs b
 | .AY _ _=>.top
 | .nh _=>.top
 | .Tw C l id n j _=>.tuple [.aP id,.av (.aP n (l.map C)),iT (j:Int)]
 | .Tx C l id n=>.tuple [.aP id,.av (.aP n (l.map C))]
 | .Ty C l id n j off _ _ _=>.tuple [.c5 id j off,.av (.aP n (l.map C))]
 | .Tz C l id n j off _ _=>.tuple [.c5 id j off,.av (.aP n (l.map C))]
 | .mk C d m c _ _ _ _=>.tuple [iT (m:Int),iT (c:Int),.av (.ptr ((C d).map xz))]
 | .TA j=>iT (j:Int)
 | .TB C l n lo hi _ _=>.tuple [.av (.aP n (l.map C)),(match lo with|some k=>iT (k:Int)|none=>.top),(match hi with|some k=>iT (k:Int)|none=>.top)]
 | .TC b lo hi _ _=>.tuple [vs b,(match lo with|some k=>iT (k:Int)|none=>.top),(match hi with|some k=>iT (k:Int)|none=>.top)]
 | .slot _ u _ _=>u
 | .L8 _ _ _=>.top
 | .TD C l id n j off _ _=>.tuple [.c5 id j off,.av (.aP n (l.map C))]
 | .TE C l id n j off _ az _=>.tuple [.c5 id j off,.av (.aP n (l.map C)),.av (.ptr (C az))]
 | .TF=>.top
 | .L7 f p q args _ _=>.tuple (.fn (.func f) p q::args)
def rowOf(σ:Heap)(id n:Nat):Option (TypeId × List (List ba)):=
 match aE σ id with
 |some (.row false t m es)=>match Nat.beq m n with
  |true=>some (t,es)
  |false=>none
 |_=>none
def qw(P:Program)(G:bc)(o:Oper)(s:aQ):Hint P G→Option (aD × aQ)
 | .cast _ v _=>match rL P G o s with
  |some a=>some (a,s.put o.dst v)
  |none=>none
 | .idx C _ n _ e _=>match o.op with
  | .indexAddr t x i=>match ke P t with
   |some cS=>match Nat.beq cS n with
    |true=>some (.tuple [aL G s x,aL G s i],s.put o.dst (.av (.ptr (C e))))
    |false=>none
   |none=>none
  |_=>none
 | .Ts _ _ u _=>match o.op with
  | .index t x i=>match isStr P t with
   |true=>some (.tuple [aL G s x,aL G s i],s.put o.dst (.av (.v (.int .u8 (u.toNat:Int)))))
   |false=>none
  |_=>none
 | .len _ l _=>match o.op with
  | .call c=>match c.callee,c.args.toList,c.argTypes.toList with
   | .builtin .len,[x],[t]=>match isSlice P t with
    |true=>some (aL G s x,s.put o.dst (iT (l.length:Int)))
    |false=>none
   |_,_,_=>none
  |_=>none
 | .call f _ r b0 K _=>match o.op with
  | .call c=>match c.callee with
   | .value x=>match nd P f&&(e7 (c.args.toList.map fun y=>hQ s.heap (aL G s y))&&(gF K r&&(la K b0&&Nat.ble s.base s.next)))with
    |true=>some (.tuple (aL G s x::c.args.toList.map fun y=>hQ s.heap (aL G s y)),{s with heap:=lb s.next b0++s.heap,next:=s.next+K}.put o.dst (qm s.next r))
    |false=>none
   |_=>none
  |_=>none
 | .take C l n k _=>match o.op with
  | .slice t x none (some y) none=>match ke P t with
   |some cS=>match Nat.beq cS n with
    |true=>some (.tuple [aL G s x,aL G s y],s.put o.dst (.av (.aP n ((l.take k).map C))))
    |false=>none
   |none=>none
  |_=>none
 | .Tt _ _ _ _=>none
 | .app C l m id e n bytes _=>match o.op with
  | .call c=>match c.callee,c.args.toList,c.argTypes.toList with
   | .builtin .append,[x,y],[t,bL]=>match qo P t with
    |some (az,cS,b')=>match Nat.beq t bL&&(Nat.beq az e&&(Nat.beq cS n&&(Nat.beq b' bytes&&(Nat.ble s.base id&&Nat.blt id s.next)))),rowOf s.heap id n with
     |true,some (bl,es)=>match Nat.beq bl e with
      |true=>some (.tuple [aL G s x,.av (.aP n es),aL G s y],aQ.put ⟨eo id s.c0,(id,.row false e n ((l++m).map C))::dz id s.heap,s.next,s.base⟩ o.dst (.aP id))
      |false=>none
     |_,_=>none
    |none=>none
   |_,_,_=>none
  |_=>none
 | .Tu mx a b=>match o.op with
  | .call c=>match c.callee,c.args.toList,mx with
   | .builtin .min,[x,y],false=>some (.tuple [aL G s x,aL G s y],s.put o.dst (iT (if b<a then b else a)))
   | .builtin .max,[x,y],true=>some (.tuple [aL G s x,aL G s y],s.put o.dst (iT (if b>a then b else a)))
   |_,_,_=>none
  |_=>none
 | .lit e n es=>match o.op with
  | .buildSlice t len parts=>match n9 P G s t len parts.toList with
   |some (az,cS,dX)=>match Nat.beq az e&&Nat.beq cS n with
    |true=>some (.av (.aP n dX),s.put o.dst (.av (.aP n es)))
    |false=>none
   |none=>none
  |_=>none
 | .row e n es=>match o.op with
  | .buildSlice t len parts=>match n9 P G s t len parts.toList with
   |some (az,cS,dX)=>match Nat.beq az e&&(Nat.beq cS n&&Nat.ble s.base s.next)with
    |true=>some (.av (.aP n dX),{s with heap:=(s.next,.row false e n es)::s.heap,next:=s.next+1}.put o.dst (.aP s.next))
    |false=>none
   |none=>none
  |_=>none
 | .Tv b=>match o.op with
  | .range t x=>match isStr P t&&Nat.ble s.base s.next with
   |true=>some (aL G s x,{s with heap:=(s.next,.bU (qt b 0))::s.heap,next:=s.next+1}.put o.dst (.ref s.next))
   |false=>none
  |_=>none
 | .Tw _ _ id n j _=>match o.op with
  | .indexAddr t x i=>match ke P t,rowOf s.heap id n with
   |some cS,some (_,es)=>match Nat.beq cS n with
    |true=>some (.tuple [aL G s x,.av (.aP n es),aL G s i],s.put o.dst (.c5 id j 0))
    |false=>none
   |_,_=>none
  |_=>none
 | .Tx _ l id n=>match o.op with
  | .call c=>match c.callee,c.args.toList,c.argTypes.toList with
   | .builtin .len,[x],[t]=>match isSlice P t,rowOf s.heap id n with
    |true,some (_,es)=>some (.tuple [aL G s x,.av (.aP n es)],s.put o.dst (iT (l.length:Int)))
    |_,_=>none
   |_,_,_=>none
  |_=>none
 | .Ty C _ id n _ off k e _=>match o.op with
  | .load t x=>match mr P t,rowOf s.heap id n with
   |some bs,some (_,es)=>match Nat.beq bs k&&(Nat.ble 1 k&&Nat.ble k ((C e).drop off).length)with
    |true=>some (.tuple [aL G s x,.av (.aP n es)],s.put o.dst (.agg ((((C e).drop off).map aD.av).take k)))
    |false=>none
   |_,_=>none
  |_=>none
 | .Tz C _ id n _ off e _=>match o.op with
  | .load t x=>match scalar P t,rowOf s.heap id n,(C e).drop off with
   |true,some (_,es),v::_=>some (.tuple [aL G s x,.av (.aP n es)],s.put o.dst (.av v))
   |_,_,_=>none
  |_=>none
 | .TB C l n lo hi _ _=>match o.op with
  | .slice t x A0 A1 none=>match ke P t,A0.isSome==lo.isSome&&A1.isSome==hi.isSome with
   |some cS,true=>match Nat.beq cS n with
    |true=>some (.tuple [aL G s x,(match A0 with|some y=>aL G s y|none=>.top),(match A1 with|some y=>aL G s y|none=>.top)],s.put o.dst (.av (.aP n (((l.take (hi.getD l.length)).drop (lo.getD 0)).map C))))
    |false=>none
   |_,_=>none
  |_=>none
 | .TC b lo hi _ _=>match o.op with
  | .slice t x A0 A1 none=>match isStr P t&&(A0.isSome==lo.isSome&&A1.isSome==hi.isSome)with
   |true=>some (.tuple [aL G s x,(match A0 with|some y=>aL G s y|none=>.top),(match A1 with|some y=>aL G s y|none=>.top)],s.put o.dst (vs (b.extract (lo.getD 0) (hi.getD b.size))))
   |false=>none
  |_=>none
 | .TA j=>match o.op with
  | .index t x i=>match P.underlying t,aL G s x with
   |some (.array len e),.agg cs=>match cs[j]?,scalar P e&&(Nat.blt j len&&((P.info? e).map (·.size)==some 1))with
    |some v,true=>some (aL G s i,s.put o.dst v)
    |_,_=>none
   |_,_=>none
  |_=>none
 | .mk C d m _ e n bytes _=>match o.op with
  | .makeSlice t x y=>match qo P t,zeroCells P e with
   |some (az,cS,b'),some zs=>match Nat.beq az e&&(Nat.beq cS n&&(Nat.beq b' bytes&&(zs.all Value.oneCell'&&Nat.ble s.base s.next)))with
    |true=>some (.tuple [aL G s x,aL G s y,.av (.ptr (zs.map ba.v))],{s with heap:=(s.next,.row false e n ((List.replicate m d).map C))::s.heap,next:=s.next+1}.put o.dst (.aP s.next))
    |false=>none
   |_,_=>none
  |_=>none
 | .TD _ _ id n j off _ _=>match o.op with
  | .fieldAddr t x f=>match sT P t f,rowOf s.heap id n with
   |some k,some (_,es)=>some (.tuple [aL G s x,.av (.aP n es)],s.put o.dst (.c5 id j (off+k)))
   |_,_=>none
  |_=>none
 | .TE C l id n j off e az _=>match o.op with
  | .store t p x=>match rowOf s.heap id n,iS (c1 (aL G s x))with
   |some (bt,es),some vs=>match((P.info? t).map (·.size)==some vs.length)&&Nat.ble (off+vs.length) n with
    |true=>some (.tuple [aL G s p,.av (.aP n es),.av (.ptr (ey (C e) off vs))],{s with heap:=eU s.heap id (.row false bt n ((l.set j az).map C))}.put o.dst .top)
    |false=>none
   |_,_=>none
  |_=>none
 | .TF=>match o.op with
  | .makeFunc (.func f) p q=>some (.top,s.put o.dst (.fn (.func f) (p.toList.map (aL G s)) (q.toList.map (aL G s))))
  |_=>none
 | .L7 f p q _ r _=>match o.op with
  | .call c=>match c.callee with
   | .value x=>match nd P f&&(e7 (ib s.heap (p++c.args.toList.map (aL G s)++q))&&jU r)with
    |true=>some (.tuple (aL G s x::ib s.heap (p++c.args.toList.map (aL G s)++q)),s.put o.dst r)
    |false=>none
   |_=>none
  |_=>none
 |_=>none
theorem TL{α:Type}{a:Array α}{x:α}(h:a.toList=[x]):a= #[x]:=by apply Array.ext';simpa using h
theorem A2{α:Type}{a:Array α}{x y:α}(h:a.toList=[x,y]):a= #[x,y]:=by apply Array.ext';simpa using h
end
end Go.aN
