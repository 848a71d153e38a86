/- The AV calculus, part K: append, make, cuts of slices and strings, small builtins, conversions. Conditions: none. -/
import Derived.Test.YtmkpmgfieagphaaGreatDoorQSMj
import Derived.Maps.AppendAt
import Derived.Orders
import Derived.Laws.RangeString
import Derived.Laws.RangeAny
namespace Go.aL
open Go
def h8(σ:bz)(n:Nat):aD→Option (List (List bd))
 | .au (.aN m es)=>if m=n then some es else none
 | .au (.v (.slice none 0 0))=>some []
 | .au (.li i l)=>if c5 i=n then some (l.map (cX i))else none
 | .aN id=>match aE σ id with
  |some (.row _ _ m es)=>if m=n then some es else none
  |_=>none
 |_=>none
section
variable {P:Program} {G:aY} {o:Oper} {s:aM}
theorem dp.elems{w:World}{ro:Nat→Prop}{n:Nat}{es:List (List bd)}{c:Value}(h:dp w ro (.aN n es) c):
 ∃b cap,c= .slice b es.length cap∧(∀e∈es,e.length=n)∧(b=none→es=[])∧∃f:Nat→Value,(∀a,b=some a→∀j,j<es.length*n→w.cell? (a.add j)=some (f j))∧∀j x,es.flatten[j]? =some x→dp w ro x (f j):=by
 cases h with
 |aN _ _ b cap f aa ae aq aT bD=>
  refine⟨b,cap,rfl,aq,fun ad=>?_,f,fun a aK j ai=>?_,bD⟩
  ·rcases Nat.eq_zero_or_pos es.length with h|h
   ·exact List.eq_nil_of_length_eq_zero h
   ·obtain⟨a,aK,_⟩:=aT h
    rw[ad]at aK;cases aK
  ·have ak:0<es.length:=by
    rcases Nat.eq_zero_or_pos es.length with h|h
    ·rw[h]at ai;simp at ai
    ·exact h
   obtain⟨a6,Hk,hc⟩:=aT ak;rw[aK]at Hk;simp only[Option.some.injEq]at Hk;subst Hk;exact(hc j ai).2
theorem BN{w:World}{ro:Nat→Prop}{σ:bz}{β:Nat→Value}{N:Nat}(a8:hl w ro σ β N){x:aD}{c:Value}(h:bp w ro σ β N x c){n:Nat}{es:List (List bd)}(he:h8 σ n x=some es):
 ∃b cap,c= .slice b es.length cap∧(∀e∈es,e.length=n)∧(b=none→es=[])∧∃f:Nat→Value,(∀a,b=some a→∀j,j<es.length*n→w.cell? (a.add j)=some (f j))∧∀j x,es.flatten[j]? =some x→dp w ro x (f j):=by
 cases h with
 |au x c hx=>
  cases x with
  |v y=>
   cases hx
   cases c with
   |slice a l iq=>
    cases a with
    |none=>
     cases l with
     |zero=>
      cases iq with
      |zero=>
       simp[h8]at he;subst he;exact⟨none,0,rfl,by simp,fun _=>rfl,fun _=>undef,by simp,by simp⟩
      |succ=>simp[h8]at he
     |succ=>simp[h8]at he
    |some=>simp[h8]at he
   |_=>simp[h8]at he
  |ptr=>simp[h8]at he
  |mp=>simp[h8]at he
  |li i l=>
   simp only[h8]at he
   split at he
   ·rename_i hm
    subst hm;simp only[Option.some.injEq]at he;subst he
    cases hx with
    |li _ _ _ hx=>exact hx.elems
   ·cases he
  |aN m eu=>
   simp only[h8]at he
   split at he
   ·rename_i hm
    subst hm;simp only[Option.some.injEq]at he;subst he;exact hx.elems
   ·cases he
 |aN id c ao ak=>
  simp only[h8]at he
  split at he
  ·rename_i z t m eu ag
   split at he
   ·rename_i hm
    subst hm;simp only[Option.some.injEq]at he;subst he;rw[ak z t _ _ ag]
    have dq:=a8.c4 id _ ag
    cases dq with
    |row _ _ _ xs aa ae aq=>
     rcases aa.2 with⟨⟨b,av,_⟩,br⟩|⟨g,cap,cur,av,hc,Xt,hle,iN,fu,lA⟩
     ·have:eu=[]:=List.eq_nil_of_length_eq_zero br
      subst this;rw[av];exact⟨b,0,rfl,by simp,fun _=>rfl,fun _=>undef,by simp,by simp⟩
     ·rw[av]
      refine⟨_,_,rfl,ae,by simp,fun j=>xs.getD j undef,fun a aK j ai=>?_,aq⟩
      simp only[Option.some.injEq]at aK;subst aK;rw[addLit,Nat.zero_add,cell_of_row w g j cur t (0,0) Xt]
      have hx:xs[j]? =cur[j]? :=by rw[←lA,List.getElem?_take,if_pos ai];simp
      have lB:j<xs.length:=by rw[aa.1];exact ai
      rw[←hx];simp[List.getD,List.getElem?_eq_getElem lB]
    |fQ _ _ _ aa=>exact aa.elems
   ·cases he
  ·cases he
 |_=>simp[h8]at he
theorem Hl{w:World}(t ty e:TypeId){i:TypeInfo}{z:Value}{n bytes:Nat}(aG:P.underlying t=some (.slice e))(hi:P.info? e=some i)(br:i.zero=some z)(h9:i.size=n)(iQ:i.bytes=bytes)(oz:z.cells.size=n)(hn:0<n)
 {v:Value}{len:Nat}{xs:List Value}(dF:kt w e n v len xs){b:Option Addr}{m cap:Nat}{news:List Value}(ao:news.length=m*n)(ad:b=none→m=0)(Xu: ∀a,b=some a→∀j u,news[j]? =some u→w.cell? (a.add j)=some u)
 (aa: ∀u∈news,u.oneCell'=true)(r0:len+m≤maxLen)(yz:(len+m)*bytes≤140737488355328):
 ∃bu w',(Builtin.append_ #[t,t] ty #[v,.slice b m cap]).run P w= .ok bu w'∧kt w' e n bu (len+m) (xs++news)∧w.grownBy w' (cb v)∧(∀k,cb bu=some k→cb v=some k∨w.heap.size≤k):=by
 by_cases hm:m=0
 ·subst hm
  have r1:news=[]:=List.eq_nil_of_length_eq_zero (by simpa using ao)
  subst r1;refine⟨v,w,?_,by simpa using dF,World.grownBy.refl w _,fun k aj=>.inl aj⟩
  have Ot:(Builtin.firstCells n 0 (.slice b 0 cap)).run P w= .ok #[] w:=by
   cases b with
   |none=>simp[Builtin.firstCells]
   |some a=>simp[Builtin.firstCells,loadCells,loadCellsFrom]
  rcases dF.2 with⟨⟨c,rfl,_⟩,rfl⟩|⟨g,iq,cur,rfl,_,_,hle,_⟩
  ·cases c<;>simp[Builtin.append_,run_underlying aG,sizeOf,typeInfo,hi,h9,Builtin.lenOf,Ot,storeCells]
  ·simp[Builtin.append_,run_underlying aG,sizeOf,typeInfo,hi,h9,Builtin.lenOf,Ot,storeCells,hle]
 ·cases b with
  |none=>exact absurd (ad rfl) hm
  |some a=>
   have fe:=Xu a rfl
   have own:w.ownsRow 0 e n v len xs→_:=fun jm=>run_append_own_at (P:=P) w 0 t ty e i z n bytes aG hi br h9 iQ oz hn v len xs jm a m cap news ao fe aa r0 yz (Nat.zero_le _)
   have fin:w.ownsRow 0 e n v len xs→v.ownBlock=cb v→∃bu w',(Builtin.append_ #[t,t] ty #[v,.slice (some a) m cap]).run P w= .ok bu w'∧kt w' e n bu (len+m) (xs++news)∧w.grownBy w' (cb v)∧(∀k,cb bu=some k→cb v=some k∨w.heap.size≤k):=by
    intro jm a7;obtain⟨bu,w',g1,g2,g3,_,g5⟩:=own jm;refine⟨bu,w',g1,.Hj g2,a7 ▸ g3,fun k aj=>?_⟩
    have ey:bu.ownBlock=some k:=by
     cases bu with
     |slice c l p=>
      cases c with
      |none=>simp[cb]at aj
      |some c=>
       simp only[cb]at aj
       split at aj
       ·cases aj
       ·simpa[Value.ownBlock]using aj
     |pointer c=>
      rcases g2.2 with⟨h,_⟩|⟨_,_,_,h,_⟩<;>cases h
     |map c=>
      rcases g2.2 with⟨h,_⟩|⟨_,_,_,h,_⟩<;>cases h
     |_=>simp[cb]at aj
    rcases g5 with h|h
    ·rw[h,a7]at ey;exact .inl ey
    ·rw[h]at ey;simp at ey;exact .inr (by omega)
   rcases dF.2 with⟨⟨c,rfl,_⟩,rfl⟩|⟨g,iq,cur,rfl,yA,ag,hle,iN,fu,lA⟩
   ·have hx:xs=[]:=List.eq_nil_of_length_eq_zero (by simpa using dF.1)
    subst hx
    cases c with
    |none=>exact fin (World.ownsRow_nil w 0 e n) rfl
    |some c=>
     have cZ:=run_append_grow (P:=P) w t ty e i z aG hi br c 0 0 [] (by simp) (by simp) a m cap news (by rw[h9];exact ao) fe (by omega) (by simp only[maxLen]at r0;omega) (growslice_fits (by omega) (by rw[iQ];exact yz))
     have jm:=World.ownsRow_made (e:=e) (size:=n) w.drew (news.toArray++Builtin.zeroCells z.cells (grownCap w (0+m) 0 e-(0+m))) (grownCap w (0+m) 0 e) (base:=0) (Nat.zero_le _) (grownCap_le_maxLen w (0+m) 0 e r0) (by
      have:=grownCap_ge w (0+m) 0 e
      simp only[Array.size_append,List.size_toArray,size_zeroCells,oz,ao,←Nat.add_mul]
      congr 1
      omega)
     refine⟨_,_,cZ,?_,⟨rfl,rfl,rfl,by simp,fun k aj _=>Go.RowKit.Below.heap_alloc w.drew _ k aj⟩,fun k aj=>?_⟩
     ·have hW:=grownCap_ge w (0+m) 0 e
      refine⟨by simp[ao],.inr ⟨w.heap.size,grownCap w (0+m) 0 e,_,rfl,by omega,heap_alloc_new w.drew _,hW,grownCap_le_maxLen w (0+m) 0 e r0,?_,?_⟩⟩
      ·simp only[Array.size_append,List.size_toArray,size_zeroCells,oz,ao,←Nat.add_mul,List.length_nil,Nat.zero_add]at hW⊢
       congr 1
       omega
      ·simp only[Array.toList_append,List.nil_append,Nat.zero_add]
       rw[←ao];exact List.take_left
     ·simp only[cb]at aj
      split at aj
      ·cases aj
      ·simp at aj;exact .inr (by omega)
   ·exact fin ⟨dF.1,.inr ⟨g,iq,cur,rfl,Nat.zero_le _,ag,hle,iN,fu,lA⟩⟩ (by simp[Value.ownBlock,cb,Nat.ne_of_gt yA])
def px(P:Program)(t:TypeId):Option (Nat × Nat × Nat):=
 match P.underlying t with
 |some (.slice e)=>match P.info? e with
  |some i=>match i.zero with
   |some z=>if z.cells.size=i.size∧0<i.size then some (e,i.size,i.bytes)else none
   |none=>none
  |none=>none
 |_=>none
theorem BO{t e n bytes:Nat}(h:px P t=some (e,n,bytes)): ∃i z,P.underlying t=some (.slice e)∧P.info? e=some i∧i.zero=some z∧i.size=n∧i.bytes=bytes∧z.cells.size=n∧0<n:=by
 unfold px at h
 split at h
 ·rename_i aw hu
  split at h
  ·rename_i i hi
   split at h
   ·rename_i z br
    split at h
    ·rename_i hc
     simp only[Option.some.injEq,Prod.mk.injEq]at h;obtain⟨rfl,rfl,rfl⟩:=h;exact⟨i,z,hu,hi,br,rfl,rfl,hc.1,hc.2⟩
    ·cases h
   ·cases h
  ·cases h
 ·cases h
theorem Hm{w:World}{ro:Nat→Prop}{n:Nat}{es:List (List bd)}(hn: ∀e∈es,e.length=n){f:Nat→Value}(hf: ∀j x,es.flatten[j]? =some x→dp w ro x (f j)):
 ((List.range (es.length*n)).map f).length=es.length*n∧(∀u∈(List.range (es.length*n)).map f,u.oneCell'=true)∧∀j x,es.flatten[j]? =some x→dp w ro x (((List.range (es.length*n)).map f).getD j undef):=by
 refine⟨by simp,fun u hu=>?_,fun j x ai=>?_⟩
 ·rw[List.mem_map]at hu
  obtain⟨j,ai,rfl⟩:=hu;rw[List.mem_range]at ai
  have ao:=jM hn
  exact(hf j (es.flatten[j]'(by omega)) (by simp)).one
 ·have ao:=jM hn
  have dP:=(List.getElem?_eq_some_iff.1 ai).1
  have:j<es.length*n:=by omega
  simpa[List.getD,this]using hf j x ai
theorem BP{w:World}{ro:Nat→Prop}{n:Nat}{es fs:List (List bd)}(hn: ∀e∈es,e.length=n){xs ys:List Value}(hx:xs.length=es.length*n)(aa: ∀j x,es.flatten[j]? =some x→dp w ro x (xs.getD j undef))
 (ae: ∀j x,fs.flatten[j]? =some x→dp w ro x (ys.getD j undef)): ∀j x,(es++fs).flatten[j]? =some x→dp w ro x ((xs++ys).getD j undef):=by
 intro j x ai
 rw[List.flatten_append]at ai
 have ao:=jM hn
 by_cases h:j<es.flatten.length
 ·rw[List.getElem?_append_left h]at ai
  have:=aa j x ai
  rw[List.getD,List.getElem?_append_left (by omega)]
  exact this
 ·rw[List.getElem?_append_right (by omega)]at ai
  have:=ae _ x ai
  rw[List.getD,List.getElem?_append_right (by omega),hx,←ao]
  exact this
theorem Xv(x y:Operand)(t:TypeId)(an:o.op= .call {callee:=.builtin .append,args:=#[x,y],argTypes:=#[t,t]}){e n bytes:Nat}(aG:px P t=some (e,n,bytes))
 {id:Nat}(hx:aI G s x= .aN id){es:List (List bd)}(hid:aE s.heap id=some (.row false e n es))(ad:s.base≤id)(bA:id<s.next)
 {fs:List (List bd)}(ax:h8 s.heap n (aI G s y)=some fs)(bJ:es.length+fs.length≤maxLen∧(es.length+fs.length)*bytes≤140737488355328):
 ee P G o s (aM.put ⟨eg id s.cC,(id,.row false e n (es++fs))::dr id s.heap,s.next,s.base⟩ o.dst (.aN id)):=by
 intro E a w ⟨β,ro,af⟩ K Q hK
 obtain⟨i,z,hu,hi,br,h9,iQ,oz,hn⟩:=BO aG
 obtain⟨b,cap,hc,r2,ua,f,jR,ub⟩:=BN af.heap (af.eval y) ax
 have dq:=af.heap.c4 id _ hid
 cases dq with
 |row _ _ _ xs dF cf fe=>
  have lG:a.eval x=β id:=by
   have h:=af.eval x
   rw[hx]at h;generalize a.eval x=c at h
   cases h with
   |aN _ _ _ ak=>exact ak _ _ _ _ hid
  obtain⟨r3,tv,yB⟩:=Hm r2 ub
  obtain⟨bu,w',cS,oA,cZ,a7⟩:=Hl (P:=P) t o.type e hu hi br h9 iQ oz hn dF (b:=b) (m:=fs.length) (cap:=cap) r3 (fun ad=>by rw[ua ad];rfl)
   (fun a6 aK j u ai=>by
    have dP:=(List.getElem?_eq_some_iff.1 ai).1
    rw[r3]at dP
    have aa:=jR a6 aK j dP
    simp[dP]at ai
    rw[aa,ai]) tv bJ.1 bJ.2
  unfold Oper.wp;simp only[execOp,an,resolve,invoke,builtin,Sem.run_bind,Sem.run_pure,Result.andThen_ok,List.map_toArray,List.map_cons,List.map_nil,lG,hc,cS]
  have kv: ∀k,k<w.heap.size→cb (β id)≠some k→w'.heap[k]? =w.heap[k]? :=fun k aj cf=>cZ.block k aj (fun e=>cf e.symm)
  have b6: ∀k,ro k→w'.heap[k]? =w.heap[k]? :=fun k aj=>kv k (af.heap.lt k aj) fun a7=>af.heap.ft k aj ⟨id,_,hid,rfl,a7⟩
  refine hK _ _ ⟨hp β id bu,ro,c6.put (af.renew (w':=w') id ad bA hid (.row false e n (es++fs)) bu cZ.os cZ.tape cZ.output cZ.size kv a7 rfl ?_) o.dst _ _ ?_⟩
  ·refine .row e n _ _ (by rw[ew,List.length_append];exact oA) (fun aw lC=>?_) (fun j x ai=>?_)
   ·rw[List.mem_append]at lC
    rcases lC with h|h
    ·exact cf _ h
    ·exact r2 _ h
   ·exact(BP cf dF.1 fe yB j x ai).keep b6 fun _ h=>h
  ·exact .aN _ _ bA fun z bs cO eu _=>(ew _ _ _).symm
theorem Xw(x y:Operand)(t:TypeId)(an:o.op= .call {callee:=.builtin .append,args:=#[x,y],argTypes:=#[t,t]}){e n bytes:Nat}(aG:px P t=some (e,n,bytes))
 (hx:aI G s x= .au (.v (.slice none 0 0)))(ad:s.base≤s.next)
 {fs:List (List bd)}(ax:h8 s.heap n (aI G s y)=some fs)(bJ:fs.length≤maxLen∧fs.length*bytes≤140737488355328):
 ee P G o s ({s with heap:=(s.next,.row false e n fs)::s.heap,next:=s.next+1}.put o.dst (.aN s.next)):=by
 intro E a w ⟨β,ro,af⟩ K Q hK
 obtain⟨i,z,hu,hi,br,h9,iQ,oz,hn⟩:=BO aG
 obtain⟨b,cap,hc,r2,ua,f,jR,ub⟩:=BN af.heap (af.eval y) ax
 obtain⟨r3,tv,yB⟩:=Hm r2 ub
 obtain⟨bu,w',cS,oA,cZ,a7⟩:=Hl (P:=P) (w:=w) t o.type e hu hi br h9 iQ oz hn (v:=.slice none 0 0) (len:=0) (xs:=[]) ⟨by simp,.inl ⟨⟨none,rfl,fun _ h=>(by cases h)⟩,rfl⟩⟩ (b:=b) (m:=fs.length) (cap:=cap) r3 (fun ad=>by rw[ua ad];rfl)
  (fun a6 aK j u ai=>by
   have dP:=(List.getElem?_eq_some_iff.1 ai).1
   rw[r3]at dP
   have aa:=jR a6 aK j dP
   simp[dP]at ai
   rw[aa,ai]) tv (by omega) (by rw[Nat.zero_add];exact bJ.2)
 unfold Oper.wp
 simp only[execOp,an,resolve,invoke,builtin,Sem.run_bind,Sem.run_pure,Result.andThen_ok,List.map_toArray,List.map_cons,List.map_nil,af.en hx,hc,cS]
 have k3:aE s.heap s.next=none:=by
  cases ag:aE s.heap s.next with
  |none=>rfl
  |some p=>have:=af.trans.new _ _ ag;omega
 have hw: ∀b,b<w.heap.size→w'.heap[b]? =w.heap[b]? :=fun b ad=>cZ.block b ad (by simp[cb])
 have b6: ∀b,ro b→w'.heap[b]? =w.heap[b]? :=fun b ad=>hw b (af.heap.lt b ad)
 refine hK _ _ ⟨hp β s.next bu,ro,c6.put (af.new (w':=w') s.next k3 ad (Nat.le_refl _) (.row false e n fs) bu cZ.os cZ.tape cZ.output cZ.size hw (fun b ad=>?_) rfl ?_) o.dst _ _ ?_⟩
 ·rcases a7 b ad with h|h
  ·simp[cb]at h
  ·exact h
 ·refine .row e n _ _ (by rw[ew];simpa using oA) r2 (fun j x ai=>(yB j x ai).keep b6 fun _ h=>h)
 ·exact .aN _ _ (Nat.lt_succ_self _) fun z bs cO eu _=>(ew _ _ _).symm
theorem Ou{cap len:Nat}{isS:Bool}{lo hi mx:Option Value}{l h m:Nat}(hm:(mx=none∧m=cap)∨∃k,mx=some (.int k (m:Int)))(a8:(hi=none∧mx=none∧h=len)∨∃k,hi=some (.int k (h:Int)))
 (ao:(lo=none∧l=0)∨∃k,lo=some (.int k (l:Int)))(aa:l≤h)(ae:h≤m)(aq:m≤cap)(w:World):(Instr.sliceBounds isS len cap lo hi mx).run P w= .ok (l,h,m) w:=by
 rcases hm with⟨rfl,rfl⟩|⟨zcQ,rfl⟩<;>rcases a8 with⟨rfl,r4,rfl⟩|⟨zcR,rfl⟩<;>rcases ao with⟨rfl,rfl⟩|⟨Ov,rfl⟩
 all_goals first
  |(cases r4;done)
  |simp[Instr.sliceBounds,Instr.sliceBound,asIntOf,aa,ae,aq]
theorem BQ (t : TypeId) (x : Operand) (lo hi : Option Operand) (an : o.op = .slice t x lo hi none) (aG : P.underlying t = some .string) {b : ByteArray} (hx : aI G s x = .au (.v (.string b))) {l h : Nat}
    (ao : (lo = none ∧ l = 0) ∨ ∃ y k, lo = some y ∧ aI G s y = .au (.v (.int k (l : Int)))) (a8 : (hi = none ∧ h = b.size) ∨ ∃ y k, hi = some y ∧ aI G s y = .au (.v (.int k (h : Int)))) (aa : l ≤ h) (ae : h ≤ b.size) :
    cT P G o s (.au (.v (.string (b.extract l h)))) :=
  fun _ a w β ro af => by
    have ad := Ou (P := P) (cap := b.size) (len := b.size) (isS := false) (lo := lo.map a.eval) (hi := hi.map a.eval) (mx := none) (l := l) (h := h) (m := b.size) (.inl ⟨rfl, rfl⟩)
      (by rcases a8 with ⟨rfl, rfl⟩ | ⟨y, k, rfl, ax⟩
          · exact .inl ⟨rfl, rfl, rfl⟩
          · exact .inr ⟨k, by simp [af.en ax]⟩)
      (by rcases ao with ⟨rfl, rfl⟩ | ⟨y, k, rfl, ax⟩
          · exact .inl ⟨rfl, rfl⟩
          · exact .inr ⟨k, by simp [af.en ax]⟩) aa ae (Nat.le_refl _) w
    exact ⟨_, by simp [execOp, an, af.en hx, Instr.sliceAt, run_underlying aG, Instr.slice, ad], .fK rfl⟩
theorem Ow(src dst:TypeId)(x:Operand)(an:o.op= .convert src dst x)(ah:(P.underlying src).isSome=true){bo:IntKind}(hd:P.underlying dst=some (.int bo)){k:IntKind}{n:Int}(hx:aI G s x= .au (.v (.int k n))):
 cT P G o s (.au (.v (.int bo (bo.wrap n)))):=
 fun _ a w β ro af=>by
  cases hu:P.underlying src with
  |none=>simp[hu]at ah
  |some d=>exact⟨_,by simp[execOp,an,af.en hx,convert,run_underlying hu,run_underlying hd,Conv.intToInt],.fK rfl⟩
theorem Ox(x y:Operand)(ts:Array TypeId)(an:o.op= .call {callee:=.builtin .min,args:=#[x,y],argTypes:=ts}){k:IntKind}{m n:Int}(hx:aI G s x= .au (.v (.int k m)))(ax:aI G s y= .au (.v (.int k n))):
 cT P G o s (.au (.v (.int k (if n<m then n else m)))):=
 fun _ a w β ro af=>⟨.int k (if n<m then n else m),by simp[execOp,an,resolve,invoke,builtin,af.en hx,af.en ax,run_min_int2],.fK rfl⟩
theorem Oy(x y:Operand)(ts:Array TypeId)(an:o.op= .call {callee:=.builtin .max,args:=#[x,y],argTypes:=ts}){k:IntKind}{m n:Int}(hx:aI G s x= .au (.v (.int k m)))(ax:aI G s y= .au (.v (.int k n))):
 cT P G o s (.au (.v (.int k (if n>m then n else m)))):=
 fun _ a w β ro af=>⟨.int k (if n>m then n else m),by simp[execOp,an,resolve,invoke,builtin,af.en hx,af.en ax,run_max_int2],.fK rfl⟩
theorem Xx(ck ty:TypeId)(x y:Operand)(an:o.op= .binOp .add ck x y ty){u v:ByteArray}(hx:aI G s x= .au (.v (.string u)))(ax:aI G s y= .au (.v (.string v)))(bJ:u.size+v.size≤9223372036854775807):
 cT P G o s (.au (.v (.string (u++v)))):=
 ot .add ck ty x y an hx ax (by
  simp only[jO]
  rw[if_neg (by simp only[IntKind.max_i64];omega)])
end
end Go.aL
namespace Go.aL
open Go
def py(s:aM)(o:Oper)(v:aD):Option aM:=some (s.put o.dst v)
def isStr(P:Program)(t:TypeId):Bool:=
 match P.underlying t with
 |some .string=>true
 |_=>false
def BR(P:Program)(t:TypeId):Bool:=
 match P.underlying t with
 |some .bool=>true
 |_=>false
theorem uc{P:Program}{t:TypeId}(h:isStr P t=true):P.underlying t=some .string:=by
 unfold isStr at h
 split at h
 ·assumption
 ·cases h
theorem BS{P:Program}{t:TypeId}(h:BR P t=true):P.underlying t=some .bool:=by
 unfold BR at h
 split at h
 ·assumption
 ·cases h
def Hn(P:Program)(G:aY)(b:Builtin)(xs:List Operand)(ts:List TypeId)(s:aM):Option aD:=
 match b,xs,ts with
 | .len,[x],[t]=>match lF s.heap (aI G s x)with
  |some m=>if isSlice P t then some (.au (.v (.int .i64 (m:Int))))else none
  |none=>match aI G s x with
   | .au (.v (.string b))=>if isStr P t then some (.au (.v (.int .i64 (b.size:Int))))else none
   |_=>match BK P t with
    |some n=>some (.au (.v (.int .i64 (n:Int))))
    |none=>none
 | .min,[x,y],_=>match aI G s x,aI G s y with
  | .au (.v (.int k m)),.au (.v (.int bo n))=>if k=bo then some (.au (.v (.int k (if n<m then n else m))))else none
  |_,_=>none
 | .max,[x,y],_=>match aI G s x,aI G s y with
  | .au (.v (.int k m)),.au (.v (.int bo n))=>if k=bo then some (.au (.v (.int k (if n>m then n else m))))else none
  |_,_=>none
 |_,_,_=>none
def qS(P:Program)(G:aY)(o:Oper)(s:aM):Option aD:=
 match o.op with
 | .move x=>some (aI G s x)
 | .assign x=>some (aI G s x)
 | .load t x=>match fc s.heap (aI G s x)with
  |some cs=>match l2 P t with
   |some n=>if n≤cs.length∧0<n then some (.agg (cs.take n))else none
   |none=>if scalar P t then match cs with
    |y::_=>some y
    |[]=>none
    else none
  |none=>none
 | .fieldAddr t x f=>match rX P t f,jN s.heap (aI G s x)with
  |some k,true=>some (qB k (aI G s x))
  |_,_=>none
 | .nilCheck x=>match jN s.heap (aI G s x)with
  |true=>some (aI G s x)
  |false=>none
 | .field t x f=>match aI G s x,vL P t f with
  | .agg cs,some (off,none)=>match cs[off]? with
   |some v=>some v
   |none=>none
  | .agg cs,some (off,some n)=>if off+n≤cs.length then some (.agg ((cs.drop off).take n))else none
  |_,_=>none
 | .indexAddr t x i=>match aI G s i with
  | .au (.v (.int _ (.ofNat j)))=>match jP P t with
   |some n=>match mU s.heap n j (aI G s x)with
    |some p=>some p
    |none=>none
   |none=>match tY P t,fc s.heap (aI G s x)with
    |some (len,n),some _=>if j<len then match iO (j*n) (aI G s x)with
     |some p=>some p
     |none=>none
     else none
    |_,_=>none
  |_=>none
 | .index t x i=>match aI G s i,aI G s x with
  | .au (.v (.int _ (.ofNat j))),.au (.v (.string b))=>if isStr P t then match b.data.toList[j]? with
   |some u=>some (.au (.v (.int .u8 (u.toNat:Int))))
   |none=>none
   else none
  |_,_=>none
 | .binOp op ck x y _=>match aI G s x,aI G s y with
  | .au (.v (.bool u)),.au (.v (.bool v))=>if BR P ck then match op with
   | .eql=>some (.au (.v (.bool (u==v))))
   | .neq=>some (.au (.v (.bool (!(u==v)))))
   |_=>none
   else none
  | .au (.v u),.au (.v v)=>match jO op u v with
   |some c=>some (.au (.v c))
   |none=>none
  | .agg cs,.agg ds=>match mP P ck,gY cs,gY ds with
   |some fs,some xs,some ys=>match yl P 0 fs xs ys with
    |some b=>match op with
     | .eql=>some (.au (.v (.bool b)))
     | .neq=>some (.au (.v (.bool (!b))))
     |_=>none
    |none=>none
   |_,_,_=>none
  |_,_=>none
 | .unOp op _ x=>match op,aI G s x with
  | .not,.au (.v (.bool b))=>some (.au (.v (.bool (!b))))
  | .neg,.au (.v (.int k n))=>some (.au (.v (.int k (k.wrap (0-n)))))
  |_,_=>none
 | .pick c x y=>match aI G s c with
  | .au (.v (.bool true))=>some (aI G s x)
  | .au (.v (.bool false))=>some (aI G s y)
  |_=>none
 | .extract x i=>match aI G s x with
  | .tuple cs=>match cs[i]? with
   |some v=>some v
   |none=>none
  |_=>none
 | .build t parts=>match places P t,zeroCells P t with
  |some pl,some zs=>if zs.all Value.oneCell'∧(parts.toList.map fun p=>(p.1,aI G s p.2)).all (fun p=>(cy p.2).all (ek s.heap))then
   match jQ pl (zs.map fun z=>.au (.v z)) (parts.toList.map fun p=>(p.1,aI G s p.2))with
   |some ds=>some (.agg ds)
   |none=>none
   else none
  |_,_=>none
 | .call c=>match c.callee with
  | .builtin b=>Hn P G b c.args.toList c.argTypes.toList s
  |_=>none
 | .convert src dst x=>match aI G s x,P.underlying dst with
  | .au (.v (.int _ n)),some (.int bo)=>if(P.underlying src).isSome then some (.au (.v (.int bo (bo.wrap n))))else none
  |_,_=>none
 |_=>none
def Ho(P:Program)(G:aY)(o:Oper)(s:aM):Option aM:=
 match qS P G o s with
 |some v=>py s o v
 |none=>match o.op with
  | .store t p x=>match aI G s p with
   | .ptr id off=>match aE s.heap id with
    |some (.box bt cs)=>if(cy (aI G s x)).all (ek s.heap)∧(P.info? t).map (·.size)=some (cy (aI G s x)).length∧off+(cy (aI G s x)).length≤cs.length
     then py {s with heap:=eU s.heap id (.box bt (dW cs off (cy (aI G s x))))} o .top else none
    |_=>none
   | .cE id i off=>match aE s.heap id with
    |some (.row false bt n es)=>match es[i]?,iu (cy (aI G s x))with
     |some e,some vs=>if(P.info? t).map (·.size)=some vs.length∧off+vs.length≤n then py {s with heap:=eU s.heap id (.row false bt n (es.set i (dW e off vs)))} o .top else none
     |_,_=>none
    |_=>none
   |_=>none
  | .alloc t=>match zeroCells P t with
   |some zs=>if zs.all Value.oneCell'∧s.base≤s.next then py {s with heap:=(s.next,.box t (zs.map fun z=>.au (.v z)))::s.heap,next:=s.next+1} o (.ptr s.next 0)else none
   |none=>none
  | .box t x=>if(cy (aI G s x)).all (ek s.heap)∧s.base≤s.next then py {s with heap:=(s.next,.box t (cy (aI G s x)))::s.heap,next:=s.next+1} o (.ptr s.next 0)else none
  |_=>none
section
variable {P:Program} {G:aY} {o:Oper} {s bh:aM} {v:aD}
theorem Xy{b:Builtin}{args:Array Operand}{ts:Array TypeId}(an:o.op= .call {callee:=.builtin b,args,argTypes:=ts})(h:Hn P G b args.toList ts.toList s=some v):cT P G o s v:=by
 unfold Hn at h
 split at h
 ·rename_i x t aK Xz
  have ay:args= #[x]:=by apply Array.ext';simpa using aK
  have aV:ts= #[t]:=by apply Array.ext';simpa using Xz
  subst ay aV
  split at h
  ·rename_i m hm
   split at h
   ·rename_i aG
    simp only[Option.some.injEq]at h;subst h;exact Hd x t an aG hm
   ·cases h
  ·split at h
   ·rename_i b hx
    split at h
    ·rename_i aG
     simp only[Option.some.injEq]at h;subst h;exact He x t an (uc aG) hx
    ·cases h
   ·split at h
    ·rename_i n hn
     simp only[Option.some.injEq]at h;subst h;exact Od x t an hn
    ·cases h
 ·rename_i x y aK
  have ay:args= #[x,y]:=by apply Array.ext';simpa using aK
  subst ay
  split at h
  ·rename_i k m bo n hx ax
   split at h
   ·rename_i aj
    subst aj;simp only[Option.some.injEq]at h;subst h;exact Ox x y ts an hx ax
   ·cases h
  ·cases h
 ·rename_i x y aK
  have ay:args= #[x,y]:=by apply Array.ext';simpa using aK
  subst ay
  split at h
  ·rename_i k m bo n hx ax
   split at h
   ·rename_i aj
    subst aj;simp only[Option.some.injEq]at h;subst h;exact Oy x y ts an hx ax
   ·cases h
  ·cases h
 ·cases h
theorem Hp(h:qS P G o s=some v):cT P G o s v:=by
 unfold qS at h
 split at h
 ·rename_i x an
  simp only[Option.some.injEq]at h;subst h;exact Nu x an
 ·rename_i x an
  simp only[Option.some.injEq]at h;subst h;exact Nv x an
 ·rename_i t x an
  split at h
  ·rename_i cs hc
   split at h
   ·rename_i n hn
    split at h
    ·rename_i ao
     simp only[Option.some.injEq]at h;subst h;exact Nw t x an hn hc ao.1 ao.2
    ·cases h
   ·split at h
    ·rename_i ah
     split at h
     ·simp only[Option.some.injEq]at h;subst h;exact GO t x an ah hc
     ·cases h
    ·cases h
  ·cases h
 ·rename_i t x f an
  split at h
  ·rename_i k aj hc
   simp only[Option.some.injEq]at h;subst h;exact Nz t x f an aj hc
  ·cases h
 ·rename_i x an
  split at h
  ·rename_i hc
   simp only[Option.some.injEq]at h;subst h;exact NA x an hc
  ·cases h
 ·rename_i t x f an
  split at h
  ·rename_i cs off hx aG
   split at h
   ·rename_i v av
    simp only[Option.some.injEq]at h;subst h;exact Oh t x f an aG hx av
   ·cases h
  ·rename_i cs off n hx aG
   split at h
   ·rename_i hn
    simp only[Option.some.injEq]at h;subst h;exact Oi t x f an aG hx hn
   ·cases h
  ·cases h
 ·rename_i t x i an
  split at h
  ·rename_i k j hi
   split at h
   ·rename_i n hn
    split at h
    ·rename_i p ak
     simp only[Option.some.injEq]at h;subst h;exact Of t x i an hn hi ak
    ·cases h
   ·split at h
    ·rename_i len n cs aG fu
     split at h
     ·rename_i ai
      split at h
      ·rename_i p ak
       simp only[Option.some.injEq]at h;subst h;exact Hf t x i an aG hi ai fu ak
      ·cases h
     ·cases h
    ·cases h
  ·cases h
 ·rename_i t x i an
  split at h
  ·rename_i k j b hi hx
   split at h
   ·rename_i aG
    split at h
    ·rename_i u hu
     simp only[Option.some.injEq]at h;subst h;exact Og t x i an (uc aG) hi hx hu
    ·cases h
   ·cases h
  ·cases h
 ·rename_i op ck x y ty an
  split at h
  ·rename_i u v hx ax
   split at h
   ·rename_i aG
    split at h
    ·simp only[Option.some.injEq]at h;subst h;exact NR ck ty x y an (BS aG) hx ax
    ·simp only[Option.some.injEq]at h;subst h;exact NS ck ty x y an (BS aG) hx ax
    ·cases h
   ·cases h
  ·rename_i u v _ hx ax
   split at h
   ·rename_i c hc
    simp only[Option.some.injEq]at h;subst h;exact ot _ ck ty x y an hx ax hc
   ·cases h
  ·rename_i cs ds hx ax
   split at h
   ·rename_i fs xs ys hf nF l4
    split at h
    ·rename_i b ad
     split at h
     ·simp only[Option.some.injEq]at h;subst h;exact NZ ck ty x y an hf hx ax nF l4 ad
     ·simp only[Option.some.injEq]at h;subst h;exact N0 ck ty x y an hf hx ax nF l4 ad
     ·cases h
    ·cases h
   ·cases h
  ·cases h
 ·rename_i op t x an
  split at h
  ·rename_i b hx
   simp only[Option.some.injEq]at h;subst h;exact N1 t x an hx
  ·rename_i k n hx
   simp only[Option.some.injEq]at h;subst h;exact N2 t x an hx
  ·cases h
 ·rename_i c x y an
  split at h
  ·rename_i hc
   simp only[Option.some.injEq]at h;subst h;exact yn c x y an hc rfl
  ·rename_i hc
   simp only[Option.some.injEq]at h;subst h;exact yn c x y an hc rfl
  ·cases h
 ·rename_i x i an
  split at h
  ·rename_i cs hx
   split at h
   ·rename_i v av
    simp only[Option.some.injEq]at h;subst h;exact N3 x i an hx av
   ·cases h
  ·cases h
 ·rename_i t parts an
  split at h
  ·rename_i pl zs ak br
   split at h
   ·rename_i hc
    split at h
    ·rename_i ds hf
     simp only[Option.some.injEq]at h;subst h;exact Om t parts an ak br hc.1 rfl hc.2 hf
    ·cases h
   ·cases h
  ·cases h
 ·rename_i c an
  split at h
  ·rename_i b ad
   obtain⟨callee,args,ts⟩:=c;simp only at ad h;subst ad;exact Xy an h
  ·cases h
 ·rename_i src dst x an
  split at h
  ·rename_i k n bo hx hd
   split at h
   ·rename_i ah
    simp only[Option.some.injEq]at h;subst h;exact Ow src dst x an ah hd hx
   ·cases h
  ·cases h
 ·cases h
theorem XA(h:Ho P G o s=some bh):ee P G o s bh:=by
 unfold Ho at h
 split at h
 ·rename_i v av
  simp only[py,Option.some.injEq]at h;subst h;exact(Hp av).step
 ·split at h
  ·rename_i t p x an
   split at h
   ·rename_i id off ak
    split at h
    ·rename_i bt cs ag
     split at h
     ·rename_i hc
      simp only[py,Option.some.injEq]at h;subst h;exact NK t p x an ak ag rfl hc.1 hc.2.1 hc.2.2
     ·cases h
    ·cases h
   ·rename_i id i off ak
    split at h
    ·rename_i bt n es ag
     split at h
     ·rename_i e vs he av
      split at h
      ·rename_i hc
       simp only[py,Option.some.injEq]at h;subst h;exact NM t p x an ak ag he av hc.1 hc.2
      ·cases h
     ·cases h
    ·cases h
   ·cases h
  ·rename_i t an
   split at h
   ·rename_i zs br
    split at h
    ·rename_i hc
     simp only[py,Option.some.injEq]at h;subst h;exact NI t an hc.2 br hc.1
    ·cases h
   ·cases h
  ·rename_i t x an
   split at h
   ·rename_i hc
    simp only[py,Option.some.injEq]at h;subst h;exact NG t x an hc.2 hc.1
   ·cases h
  ·cases h
def dT(ops:Array Oper)(s:aM)(o:Oper):Option Bool:=
 match o.guard with
 |none=>some true
 |some (j,b)=>match l5 ops j with
  |some d=>match s.cC[d]? with
   |some (.au (.v (.bool c)))=>some (match b,c with
    |true,true=>true
    |false,false=>true
    |_,_=>false)
   |some (.tuple _)=>some false
   |_=>none
  |none=>none
def vN(P:Program)(G:aY)(ops:Array Oper):Nat→List Oper→aM→Option aM
 |0,_,s=>some s
 |n+1,o::r,s=>match dT ops s o with
  |some true=>match Ho P G o s with
   |some bh=>vN P G ops n r bh
   |none=>none
  |some false=>vN P G ops n r (s.put o.dst (.tuple []))
  |none=>none
 |_+1,[],_=>none
variable {Q:Exit→aM→Prop}
theorem cm.step{ops:Array Oper}{rest:List Oper}(ag:dT ops s o=some true)(h:ee P G o s bh)(k:cm P G ops Q rest bh):cm P G ops Q (o::rest) s:=by
 unfold dT at ag
 split at ag
 ·rename_i hn
  exact cm.cons hn h k
 ·rename_i j b hn
  split at ag
  ·rename_i d hd
   split at ag
   ·rename_i c ah
    simp only[Option.some.injEq]at ag
    have yC:b=c:=by cases b<;>cases c<;>simp_all
    subst yC;exact cm.guarded hn hd ah h k
   ·cases ag
   ·cases ag
  ·cases ag
theorem cm.pass{ops:Array Oper}{rest:List Oper}(ag:dT ops s o=some false)(k:cm P G ops Q rest (s.put o.dst (.tuple []))):cm P G ops Q (o::rest) s:=by
 unfold dT at ag
 split at ag
 ·cases ag
 ·rename_i j b hn
  split at ag
  ·rename_i d hd
   split at ag
   ·rename_i c ah
    simp only[Option.some.injEq]at ag
    have yC:c= !b:=by cases b<;>cases c<;>simp_all
    subst yC;exact cm.W8 hn hd ah k
   ·rename_i cs ah
    exact cm.W9 hn hd ah k
   ·cases ag
  ·cases ag
theorem cm.run{ops:Array Oper}: ∀(n:Nat) {l:List Oper} {s bh:aM},vN P G ops n l s=some bh→cm P G ops Q (l.drop n) bh→cm P G ops Q l s
 |0,l,s,bh,h,k=>by
  simp[vN]at h;subst h;exact k
 |n+1,[],s,bh,h,k=>by simp[vN]at h
 |n+1,o::r,s,bh,h,k=>by
  simp only[vN]at h
  split at h
  ·rename_i ag
   split at h
   ·rename_i s1 aa
    exact cm.step ag (XA aa) (cm.run n h k)
   ·cases h
  ·rename_i ag
   exact cm.pass ag (cm.run n h k)
  ·cases h
end
end Go.aL
namespace Go.aL
open Go
abbrev iw(n:Int):aD:=.au (.v (.int .i64 n))
abbrev ke(b:Bool):aD:=.au (.v (.bool b))
abbrev vs(s:ByteArray):aD:=.au (.v (.string s))
abbrev XB(l:List bd):List aD:=l.map .au
def mW:Nat→Nat→List (Nat × aD)→List aD
 |_,0,_=>[]
 |i,k+1,[]=>.top::mW (i+1) k []
 |i,k+1,(j,v)::r=>if i=j then v::mW (i+1) k r else .top::mW (i+1) k ((j,v)::r)
theorem dw(n:Int)(aa: -9223372036854775808≤n)(ae:n≤9223372036854775807):IntKind.i64.wrap n=n:=by
 rw[IntKind.wrap_i64];omega
def ma(σ:bz):bz→bz
 |[]=>[]
 |(k,.box t cs)::r=>(k,.box t (l8 σ cs))::ma σ r
 |(k,.row z t n es)::r=>(k,.row z t n es)::ma σ r
 |(k,.bY bE)::r=>(k,.bY bE)::ma σ r
def k7(σ:bz):ej→ej
 | .box t cs=>.box t (l8 σ cs)
 | .row z t n es=>.row z t n es
 | .bY bE=>.bY bE
theorem qT(σ:bz): ∀(h:bz) (k:Nat),aE (ma σ h) k=(aE h k).map (k7 σ)
 |[],k=>by simp[ma,aE]
 |(j,.box t cs)::r,k=>by
  by_cases ai:j=k
  ·simp[ma,aE,ai,k7]
  ·simp[ma,aE,ai,qT σ r k]
 |(j,.row z t n es)::r,k=>by
  by_cases ai:j=k
  ·simp[ma,aE,ai,k7]
  ·simp[ma,aE,ai,qT σ r k]
 |(j,.bY bE)::r,k=>by
  by_cases ai:j=k
  ·simp[ma,aE,ai,k7]
  ·simp[ma,aE,ai,qT σ r k]
theorem kt.Hq{w:World}{ro:Nat→Prop}{t:TypeId}{n:Nat}{v:Value}{es:List (List bd)}{xs:List Value}(h:kt w t n v es.length xs)(hn: ∀e∈es,e.length=n)(hc: ∀j x,es.flatten[j]? =some x→dp w ro x (xs.getD j undef))
 (b6: ∀b,cb v=some b→ro b):dp w ro (.aN n es) v:=by
 rcases h.2 with⟨⟨b,av,_⟩,br⟩|⟨g,cap,cur,av,ak,ag,hle,iN,fu,lA⟩
 ·subst av
  have:es=[]:=List.eq_nil_of_length_eq_zero br
  subst this;exact .aN n [] b 0 (fun _=>undef) (by simp) (Nat.zero_le _) (by simp) (by simp) (by simp)
 ·subst av
  refine .aN n es _ cap (fun j=>xs.getD j undef) hle iN hn (fun _=>⟨⟨g,0,none⟩,rfl,fun j ai=>⟨b6 g (by simp[cb,Nat.ne_of_gt ak]),?_⟩⟩) hc
  rw[addLit,Nat.zero_add,cell_of_row w g j cur t (0,0) ag]
  have hx:xs[j]? =cur[j]? :=by rw[←lA,List.getElem?_take,if_pos ai];simp
  have lB:j<xs.length:=by rw[h.1];exact ai
  rw[←hx];simp[List.getD,List.getElem?_eq_getElem lB]
def yD(s:aM)(id:Nat):aM:=
 match aE s.heap id with
 |some (.row false t n es)=>⟨l8 [(id,.row true t n es)] s.cC,ma [(id,.row true t n es)] (fP s.heap id),s.next,s.base⟩
 |_=>s
theorem cL.yD(s:aM)(id:Nat):cL s (yD s id):=by
 unfold Go.aL.yD
 split
 ·rename_i t n es hid
  intro E G a w ⟨β,ro,h⟩
  have dq:=h.heap.c4 id _ hid
  cases dq with
  |row _ _ _ xs dF hn hc=>

   have XC:dp w (fun b=>ro b∨cb (β id)=some b) (.aN n es) (β id):=dF.Hq hn (fun j x ai=>(hc j x ai).keep (fun _ _=>rfl) fun _ h=>.inl h) fun b ad=>.inr ad
   have gb: ∀k o,aE (fP s.heap id) k=some o→aE s.heap k=some o∧k≠id:=by
    intro k o aj;rw[Bv]at aj
    split at aj
    ·cases aj
    ·rename_i cf
     exact⟨aj,fun e=>cf e.symm⟩
   have view: ∀x c,bp w ro s.heap β s.next x c→bp w (fun b=>ro b∨cb (β id)=some b) (ma [(id,.row true t n es)] (fP s.heap id)) β s.next (mR [(id,.row true t n es)] x) c:=by
    intro x c hx
    induction hx with
    |au x c hx=>exact .au x c (hx.keep (fun _ _=>rfl) fun _ h=>.inl h)
    |agg cs c aa _ aQ=>
     refine .agg _ c (by rw[ov];exact aa) fun j x ai=>?_
     obtain⟨y,ax,rfl⟩:=ow _ ai;exact aQ j y ax
    |tuple cs c aa _ aQ=>
     refine .tuple _ c (by rw[ov];exact aa) fun j x ai=>?_
     obtain⟨y,ax,rfl⟩:=ow _ ai;exact aQ j y ax
    |ptr k off c ao ak=>
     refine .ptr k off c ao fun bs cs' ag=>?_
     rw[qT]at ag
     cases aj:aE (fP s.heap id) k with
     |none=>simp[aj]at ag
     |some p=>
      cases p with
      |box t2 yE=>exact ak t2 yE (gb k _ aj).1
      |row=>simp[aj,k7]at ag
      |bY=>simp[aj,k7]at ag
    |dB k off c ao ak=>
     refine .dB k off c ao fun bs cs' ag=>?_
     rw[qT]at ag
     cases aj:aE (fP s.heap id) k with
     |none=>simp[aj]at ag
     |some p=>
      cases p with
      |box t2 yE=>exact ak t2 yE (gb k _ aj).1
      |row=>simp[aj,k7]at ag
      |bY=>simp[aj,k7]at ag
    |cE k i off c ao ak=>
     refine .cE k i off c ao fun h5 bs cO eu ag=>?_
     rw[qT]at ag
     cases aj:aE (fP s.heap id) k with
     |none=>simp[aj]at ag
     |some p=>
      cases p with
      |box t2 yE=>simp[aj,k7]at ag
      |bY=>simp[aj,k7]at ag
      |row z2 t2 fy XD=>
       simp only[aj,k7,Option.map_some,Option.some.injEq,ej.row.injEq]at ag;obtain⟨rfl,rfl,rfl,rfl⟩:=ag;exact ak _ _ _ _ (gb k _ aj).1
    |aN k c ao ak=>
     simp only[mR,aE]
     by_cases aj:id=k
     ·subst aj
      simp only[if_true];rw[ak _ _ _ _ hid];exact .au _ _ XC
     ·simp only[if_neg aj]
      refine .aN k c ao fun h5 bs cO eu ag=>?_
      rw[qT]at ag
      cases ey:aE (fP s.heap id) k with
      |none=>simp[ey]at ag
      |some p=>
       cases p with
       |box t2 yE=>simp[ey,k7]at ag
       |bY=>simp[ey,k7]at ag
       |row z2 t2 fy XD=>exact ak _ _ _ _ (gb k _ ey).1
    |fn f p q c d aa ae _ _ gL gM=>
     refine .fn f _ _ c d (by rw[ov];exact aa) (by rw[ov];exact ae) (fun j x ai=>?_) (fun j x ai=>?_)
     ·obtain⟨y,ax,rfl⟩:=ow _ ai
      exact gL j y ax
     ·obtain⟨y,ax,rfl⟩:=ow _ ai
      exact gM j y ax
    |ref k c ao ak=>
     refine .ref k c ao fun bE ag=>?_
     rw[qT]at ag
     cases aj:aE (fP s.heap id) k with
     |none=>simp[aj]at ag
     |some p=>
      cases p with
      |box=>simp[aj,k7]at ag
      |row=>simp[aj,k7]at ag
      |bY lz=>exact ak lz (gb k _ aj).1
    |top c=>exact .top c
   have back: ∀k o,aE (ma [(id,.row true t n es)] (fP s.heap id)) k=some o→∃p,aE s.heap k=some p∧k≠id∧p.live=o.live∧o=k7 [(id,.row true t n es)] p:=by
    intro k o ag;rw[qT]at ag
    cases aj:aE (fP s.heap id) k with
    |none=>simp[aj]at ag
    |some p=>
     obtain⟨aa,ae⟩:=gb k p aj;refine⟨p,aa,ae,?_,?_⟩
     ·simp[aj]at ag
      subst ag
      cases p<;>rfl
     ·simp[aj]at ag
      exact ag.symm
   refine⟨β,fun b=>ro b∨cb (β id)=some b,h.defers,by simpa[ov]using h.size,fun i x hx=>?_,⟨fun k o ag=>?_,fun k bo o cl b ag dN ao r5 ad ho=>?_,fun b ad=>?_,fun b ad=>?_⟩,
    h.hT.keep (fun _ _=>rfl) fun _ h=>.inl h,?_,h.base⟩
   ·obtain⟨y,ax,rfl⟩:=ow _ hx
    exact view _ _ (h.slot i y ax)
   ·obtain⟨p,aa,ae,aq,rfl⟩:=back k o ag
    have an:=h.heap.c4 k p aa
    cases an with
    |box bs cs' b arr ay aV ct eA=>
     refine .box bs _ b arr ay aV (by rw[ov];exact ct) fun j x ai=>?_
     obtain⟨y,ax,rfl⟩:=ow _ ai;exact view _ _ (eA j y ax)
    |row bs cO eu G0 ay aV ct=>exact .row bs cO eu G0 ay aV fun j x ai=>(ct j x ai).keep (fun _ _=>rfl) fun _ h=>.inl h
    |fQ bs cO eu ay=>exact .fQ bs cO eu (ay.keep (fun _ _=>rfl) fun _ h=>.inl h)
    |bY bE b o ay aV ct=>exact .bY bE b o ay aV (bE.mono _ _ _ _ (fun x c h=>h.keep (fun _ _=>rfl) fun _ h=>.inl h) ct)
   ·obtain⟨p,aa,_,aq,_⟩:=back k o ag
    obtain⟨fF,vO,_,XE,_⟩:=back bo cl dN;exact h.heap.inj k bo p fF b aa vO (aq.trans ao) (XE.trans r5) ad ho
   ·rintro⟨k,o,ag,ao,a7⟩
    obtain⟨p,aa,ae,aq,_⟩:=back k o ag
    rcases ad with ad|ad
    ·exact h.heap.ft b ad ⟨k,p,aa,aq.trans ao,a7⟩
    ·exact ae (h.heap.inj k id p _ b aa hid (aq.trans ao) rfl a7 ad)
   ·rcases ad with ad|ad
    ·exact h.heap.lt b ad
    ·exact(dF.hk ad).1
   ·have bs:=h.trans
    refine⟨bs.os,bs.tape,bs.output,bs.size,bs.frame,fun b ad=>?_,fun b ad=>.inl (bs.jL b ad),?_,fun k aj o ag=>?_,fun k o ag=>?_,bs.le⟩
    ·rcases ad with ad|ad
     ·exact bs.iM b ad
     ·rcases bs.gK b ⟨id,_,hid,rfl,ad⟩with hc|hc
      ·exact .inr (.inl hc)
      ·exact .inr (.inr hc)
    ·rintro b ⟨k,o,ag,ao,a7⟩
     obtain⟨p,aa,_,aq,_⟩:=back k o ag;exact bs.gK b ⟨k,p,aa,aq.trans ao,a7⟩
    ·obtain⟨p,aa,_,_,_⟩:=back k o ag
     exact bs.dE k aj p aa
    ·obtain⟨p,aa,_,_,_⟩:=back k o ag
     exact bs.new k p aa
 ·exact cL.refl s
end Go.aL
namespace Go.aL
open Go
def pz(s:ByteArray)(pos:Nat):Bu:=⟨fun _ v o=>(∃b,v= .pointer (some ⟨b,0,none⟩))∧o= .stringIter s pos,fun _ _ _ _ _ h=>h,none,fun _ h=>by cases h⟩
section
variable {P:Program} {G:aY} {o:Oper} {s:aM}
theorem run_newObj(h6:Obj)(w:World):(newObj h6).run P w= .ok w.heap.size (w.alloc h6):=rfl
theorem Oz{w:World}{r:Nat}{b:ByteArray}{p:Nat}(h:w.heap[r]? =some (.stringIter b p)):(getObj r).run P w= .ok (.stringIter b p) w:=by simp[getObj,Sem.run,h]
theorem XF{w:World}{r:Nat}{b:ByteArray}{p:Nat}(h6:Obj)(h:w.heap[r]? =some (.stringIter b p)):(setObj r h6).run P w= .ok () {w with heap:=w.heap.setIfInBounds r h6}:=by simp[setObj,Sem.run,h]
theorem XG(t:TypeId)(x:Operand)(an:o.op= .range t x)(aG:P.underlying t=some .string){b:ByteArray}(hx:aI G s x= .au (.v (.string b)))(ad:s.base≤s.next):
 ee P G o s ({s with heap:=(s.next,.bY (pz b 0))::s.heap,next:=s.next+1}.put o.dst (.ref s.next)):=by
 intro E a w ⟨β,ro,af⟩ K Q hK
 unfold Oper.wp
 simp only[execOp,an,af.en hx,Sem.run_bind,Instr.range,run_underlying aG,Result.andThen_ok,Sem.run_pure]
 have k3:aE s.heap s.next=none:=by
  cases ag:aE s.heap s.next with
  |none=>rfl
  |some p=>have:=af.trans.new _ _ ag;omega
 have ga:=af.new (w':=w.alloc (.stringIter b 0)) s.next k3 ad (Nat.le_refl _) (.bY (pz b 0)) (.pointer (some ⟨w.heap.size,0,none⟩)) rfl rfl rfl (by simp) (fun b ad=>Go.RowKit.Below.heap_alloc w _ b ad) (fun b ad=>by simp[cb]at ad;omega) rfl
  (.bY _ w.heap.size (.stringIter b 0) (by rw[ew];rfl) (heap_alloc_new w _) ⟨⟨_,ew _ _ _⟩,rfl⟩)
 have aj:=hK _ _ ⟨_,ro,ga.put o.dst (.ref s.next) (.pointer (some ⟨w.heap.size,0,none⟩)) (.ref _ _ (Nat.lt_succ_self _) fun bE _=>(ew _ _ _).symm)⟩
 rw[run_newObj]
 exact aj
theorem XH(x:Operand)(an:o.op= .next x true){id:Nat}(hx:aI G s x= .ref id){b:ByteArray}{pos:Nat}(hid:aE s.heap id=some (.bY (pz b pos)))(ak:b.size≤pos):
 cT P G o s (.tuple [.au (.v (.bool false))]):=
 fun E a w β ro af=>by
  have dq:=af.heap.c4 id _ hid
  cases dq with
  |bY _ Hr h6 aa ae aq=>
   obtain⟨⟨gm,ho⟩,rfl⟩:=aq
   have ky:=af.eval x
   rw[hx]at ky;generalize he:a.eval x=c at ky
   cases ky with
   |ref _ _ _ hc=>
    have ud:=hc _ hid
    rw[ho]at aa ud;simp only[cb,Option.some.injEq]at aa;subst aa;refine⟨.tuple #[.bool false],?_,.tuple _ _ rfl fun j y ai=>?_⟩
    ·have hn: ¬pos<b.size:=by omega
     rw[ud]at he;simp[execOp,an,he,Instr.next,Oz ae,hn]
    ·cases j with
     |zero=>simp at ai;subst ai;exact .fK rfl
     |succ j=>simp at ai
theorem XI(x:Operand)(an:o.op= .next x true){id:Nat}(hx:aI G s x= .ref id){b:ByteArray}{pos:Nat}(hid:aE s.heap id=some (.bY (pz b pos)))(ak:pos<b.size){c k:Nat}(hd:Utf8.decode b pos=(c,k)):
 ee P G o s ({s with heap:=eU s.heap id (.bY (pz b (pos+k)))}.put o.dst (.tuple [.au (.v (.bool true)),.au (.v (.int .i64 (pos:Int))),.au (.v (.int .i32 (c:Int)))])):=by
 intro E a w ⟨β,ro,af⟩ K Q hK
 have dq:=af.heap.c4 id _ hid
 cases dq with
 |bY _ Hr h6 aa ae aq=>
  obtain⟨⟨gm,ho⟩,rfl⟩:=aq
  have ky:=af.eval x
  rw[hx]at ky;generalize he:a.eval x=qU at ky
  cases ky with
  |ref _ _ _ hc=>
   have ud:=hc _ hid
   have pA:=aa
   rw[ho]at aa ud;simp only[cb,Option.some.injEq]at aa;subst aa;rw[ud]at he;unfold Oper.wp
   have cS:(execOp a.eval o).run P w= .ok (.value (.tuple #[.bool true,goInt pos,.int .i32 c])) {w with heap:=w.heap.setIfInBounds gm (.stringIter b (pos+k))}:=by
    simp[execOp,an,he,Instr.next,Oz ae,ak,hd,XF _ ae]
   rw[cS]
   have bA:=(Array.getElem?_eq_some_iff.1 ae).1
   have hw:=af.write (w':={w with heap:=w.heap.setIfInBounds gm (.stringIter b (pos+k))}) id _ (.bY (pz b (pos+k))) hid rfl rfl (.inr (.inr ⟨_,_,rfl,rfl⟩)) rfl rfl rfl (by simp) (fun j ai cf=>by
    have:gm≠j:=fun e=>cf (by rw[ho,←e];rfl)
    simp[Array.getElem?_setIfInBounds_ne this]) (.bY _ gm (.stringIter b (pos+k)) pA (by simp[bA]) ⟨⟨gm,ho⟩,rfl⟩)
   refine hK _ _ ⟨β,ro,hw.put o.dst _ _ (.tuple _ _ rfl fun j y ai=>?_)⟩
   match j,ai with
   |0,ai=>simp at ai;subst ai;exact .fK rfl
   |1,ai=>simp at ai;subst ai;exact .fK rfl
   |2,ai=>simp at ai;subst ai;exact .fK rfl
   |j+3,ai=>simp at ai
end
end Go.aL
namespace Go.aL
open Go
section
variable {P:Program} {G:aY} {o:Oper} {s:aM} {E:Entry} {a:Act} {w w':World} {β:Nat→Value} {ro ro':Nat→Prop}
theorem c6.grow(h:c6 E G s a w β ro)(om:w'.os=w.os)(oo:w'.tape=w.tape)(ku:w'.output=w.output)(bJ:w.heap.size≤w'.heap.size)(hw: ∀b,b<w.heap.size→w'.heap[b]? =w.heap[b]?)
 (b6: ∀b,ro b→ro' b)(ga: ∀b,ro' b→ro b∨(w.heap.size≤b∧b<w'.heap.size)):c6 E G s a w' β ro':=by
 have aj: ∀b,ro b→w'.heap[b]? =w.heap[b]? :=fun b ad=>hw b (h.heap.lt b ad)
 refine⟨h.defers,h.size,fun i x hx=>(h.slot i x hx).keep aj b6 (Nat.le_refl _) (fun _ t cs ag=>⟨rfl,t,cs,ag⟩) (fun _ z t _ es ag=>⟨rfl,z,t,es,ag⟩) (fun _ bE ag=>⟨rfl,bE,ag⟩),
  ⟨fun id h6 ag=>(h.heap.c4 id h6 ag).keep aj b6 (Nat.le_refl _) bJ rfl (fun ao b ad=>hw b ((h.heap.c4 id h6 ag).hk ao ad)) (fun _ t cs ag=>⟨rfl,t,cs,ag⟩) (fun _ z t _ es ag=>⟨rfl,z,t,es,ag⟩) (fun _ bE ag=>⟨rfl,bE,ag⟩),h.heap.inj,fun b ad an=>?_,fun b ad=>?_⟩,
  h.hT.keep aj b6,?_,h.base⟩
 ·rcases ga b ad with aa|⟨aa,_⟩
  ·exact h.heap.ft b aa an
  ·obtain⟨id,h6,ag,ao,ho⟩:=an
   have:=(h.heap.c4 id h6 ag).hk ao ho
   omega
 ·rcases ga b ad with aa|⟨_,aa⟩
  ·exact Nat.lt_of_lt_of_le (h.heap.lt b aa) bJ
  ·exact aa
 ·have t:=h.trans
  refine⟨om.trans t.os,oo.trans t.tape,ku.trans t.output,Nat.le_trans t.size bJ,fun b ad hn=>(hw b (Nat.lt_of_lt_of_le ad t.size)).trans (t.frame b ad hn),fun b ad=>?_,fun b ad=>b6 b (t.jL b ad),t.gK,t.dE,t.new,t.le⟩
  rcases ga b ad with aa|⟨aa,_⟩
  ·exact t.iM b aa
  ·exact .inr (.inr (Nat.le_trans t.size aa))
theorem ee.Hs{t:TypeId}{n:Nat}{es:List (List bd)}(a8:vM P G o s t n es):ee P G o s (s.put o.dst (.au (.aN n es))):=by
 obtain⟨hn,h⟩:=a8
 intro E a w ⟨β,ro,af⟩ K Q hK
 obtain⟨v,xs,w',cS,jm,cZ,gN,fe⟩:=h E a w β ro af
 unfold Oper.wp
 rw[cS]
 have hw: ∀b,b<w.heap.size→w'.heap[b]? =w.heap[b]? :=fun b ad=>cZ.block b ad (by simp)
 have dF:kt w' t n v es.length xs:=.Hj jm
 have ag:=af.grow (ro':=fun b=>ro b∨cb v=some b) cZ.os cZ.tape cZ.output cZ.size hw (fun _ h=>.inl h) (fun b ad=>by
  rcases ad with h|h
  ·exact .inl h
  ·exact .inr ⟨gN b h,(dF.hk h).1⟩)
 exact hK _ _ ⟨β,_,ag.put o.dst _ _ (.au _ _ (dF.Hq hn (fun j x ai=>(fe j x ai).keep (fun b ad=>hw b (af.heap.lt b ad)) fun _ h=>.inl h) fun b ad=>.inr ad))⟩
mutual
theorem OA(d:Nat): ∀(x:aD),ff x=true→pw d x=x∧gd 0 x=true
 | .au _,_=>⟨rfl,rfl⟩
 | .agg cs,h=>by
  have:=yF d cs (by simpa[ff]using h)
  exact⟨by simp[pw,this.1],by simpa[gd]using this.2⟩
 | .tuple cs,h=>by
  have:=yF d cs (by simpa[ff]using h)
  exact⟨by simp[pw,this.1],by simpa[gd]using this.2⟩
 | .fn f p q,h=>by
  simp only[ff,Bool.and_eq_true]at h
  have aa:=yF d p h.1
  have ae:=yF d q h.2
  exact⟨by simp[pw,aa.1,ae.1],by simp[gd,aa.2,ae.2]⟩
 | .top,_=>⟨rfl,rfl⟩
 | .ptr _ _,h=>by simp[ff]at h
 | .dB _ _,h=>by simp[ff]at h
 | .cE _ _ _,h=>by simp[ff]at h
 | .aN _,h=>by simp[ff]at h
 | .ref _,h=>by simp[ff]at h
theorem yF(d:Nat): ∀(l:List aD),eL l=true→lD d l=l∧k4 0 l=true
 |[],_=>⟨rfl,rfl⟩
 |x::r,h=>by
  simp only[eL,Bool.and_eq_true]at h
  have aa:=OA d x h.1
  have ae:=yF d r h.2
  exact⟨by simp[lD,aa.1,ae.1],by simp[k4,aa.2,ae.2]⟩
end
theorem ee.XJ{x:Operand}{xs:Array Operand}{ts:Array TypeId}(an:o.op= .call {callee:=.value x,args:=xs,argTypes:=ts}){f:FuncId}(hx:aI G s x= .fn (.func f) [] [])
 (gf:mT P f=true){args:List aD}(h7:xs.toList.map (fun y=>mR s.heap (aI G s y))=args)(ox:eL args=true){r:aD}(hc:dI P G f args [] 0 fun hN bO=>hN=r∧bO=[])(af:ff r=true)(ad:s.base≤s.next):
 ee P G o s (s.put o.dst r):=by
 obtain⟨Ht,XK⟩:=OA s.next r af
 have:=ee.call (K:=0) an hx gf h7 ox hc (fun _ _ h=>h) XK rfl ad
 rw[Ht]at this
 exact this
def iR(ks:List Nat)(l:List aD):List aD:=l.mapIdx fun i x=>if ks.contains i then x else .top
theorem yG(ks:List Nat)(l:List aD)(i:Nat):(iR ks l)[i]? =(l[i]?).map fun x=>if ks.contains i then x else .top:=by
 simp[iR]
theorem c6.mask(h:c6 E G s a w β ro)(ks:List Nat):c6 E G {s with cC:=iR ks s.cC} a w β ro:=by
 refine⟨h.defers,by simp[iR,h.size],fun i x hx=>?_,h.heap,h.hT,h.trans,h.base⟩
 simp only[yG]at hx
 cases hi:s.cC[i]? with
 |none=>simp[hi]at hx
 |some y=>
  simp only[hi,Option.map_some,Option.some.injEq]at hx
  split at hx
  ·subst hx;exact h.slot i y hi
  ·subst hx;exact .top _
def DStep(P:Program)(G:aY)(ops:Array Oper)(db:aM)(T:List aD)(o:Oper)(v:aD):Prop:=
 ∀s:aM,s.heap=db.heap→s.next=db.next→s.base=db.base→s.cC.length=T.length→(∀t∈o.looksAt ops,s.cC[t]? =T[t]?)→
  (dT ops s o=some true∧ee P G o s (s.put o.dst v))∨(dT ops s o=some false∧v= .tuple [])
theorem Hu{ks:List Nat}{l hG:List aD}(hlen:l.length=hG.length)(h: ∀t∈ks,l[t]? =hG[t]?):iR ks l=iR ks hG:=by
 apply List.ext_getElem?
 intro i
 rw[yG,yG]
 by_cases hi:i∈ks
 ·rw[h i hi]
 ·have hc:ks.contains i=false:=by simpa using hi
  simp only[hc]
  by_cases ao:i<l.length
  ·rw[List.getElem?_eq_getElem ao,List.getElem?_eq_getElem (by omega)];rfl
  ·rw[List.getElem?_eq_none (by omega),List.getElem?_eq_none (by omega)]
theorem Hv{ops:Array Oper}{ks:List Nat}(aj: ∀j b,o.guard=some (j,b)→∀d,l5 ops j=some d→d∈ks):dT ops {s with cC:=iR ks s.cC} o=dT ops s o:=by
 unfold dT
 cases ag:o.guard with
 |none=>rfl
 |some Hw=>
  obtain⟨j,b⟩:=Hw;simp only
  cases hd:l5 ops j with
  |none=>rfl
  |some d=>
   have hm:ks.contains d=true:=by simpa using aj j b ag d hd
   simp only[yG]
   cases ah:s.cC[d]? with
   |none=>simp
   |some x=>simp only[Option.map_some,hm,if_true]
theorem Hx{ops:Array Oper}(j:Nat)(b:Bool)(ag:o.guard=some (j,b))(d:Nat)(hd:l5 ops j=some d):d∈o.looksAt ops:=by
 unfold l5 at hd
 simp[Oper.looksAt,ag,hd]
theorem DStep.val{ops:Array Oper}{db:aM}{T:List aD}{v:aD}(ag:dT ops ⟨iR (o.looksAt ops) T,db.heap,db.next,db.base⟩ o=some true)(av:qS P G o ⟨iR (o.looksAt ops) T,db.heap,db.next,db.base⟩=some v):DStep P G ops db T o v:=by
 intro s aa ae aq hlen bF
 have hm:=Hu hlen bF
 have dH:({s with cC:=iR (o.looksAt ops) s.cC}:aM)=⟨iR (o.looksAt ops) T,db.heap,db.next,db.base⟩:=by rw[hm,←aa,←ae,←aq]
 refine .inl ⟨by rw[←Hv (ks:=o.looksAt ops) Hx,dH];exact ag,cT.step fun E a w β ro af=>?_⟩
 have dS:=af.mask (o.looksAt ops)
 rw[dH]at dS
 have:=Hp av E a w β ro dS
 simpa only[aa,ae]using this
theorem XL{ks:List Nat}{y:Operand}(ax: ∀t,y= .tmp t→t∈ks):aI G {s with cC:=iR ks s.cC} y=aI G s y:=by
 cases y with
 |tmp t=>
  have hm:ks.contains t=true:=by simpa using ax t rfl
  simp only[aI,List.getD,yG]
  cases ah:s.cC[t]? with
  |none=>rfl
  |some x=>simp only[Option.map_some,hm,if_true]
 |_=>rfl
theorem DStep.of{ops:Array Oper}{db:aM}{T:List aD}{v:aD}(ag:dT ops ⟨iR (o.looksAt ops) T,db.heap,db.next,db.base⟩ o=some true)
 (h: ∀s:aM,s.heap=db.heap→s.next=db.next→s.base=db.base→(∀y:Operand,(∀t,y= .tmp t→t∈o.looksAt ops)→aI G s y=aI G ⟨iR (o.looksAt ops) T,db.heap,db.next,db.base⟩ y)→ee P G o s (s.put o.dst v)):DStep P G ops db T o v:=by
 intro s aa ae aq hlen bF
 have hm:=Hu hlen bF
 have dH:({s with cC:=iR (o.looksAt ops) s.cC}:aM)=⟨iR (o.looksAt ops) T,db.heap,db.next,db.base⟩:=by rw[hm,←aa,←ae,←aq]
 refine .inl ⟨by rw[←Hv (ks:=o.looksAt ops) Hx,dH];exact ag,h s aa ae aq fun y ax=>?_⟩
 rw[←dH]
 exact(XL ax).symm
end
end Go.aL
namespace Go.aL
open Go
def vP(l:List Oper)(r6:List aD)(pB:List aD)(E:Nat→Prop)(T:List aD):Prop:=
 T.length=pB.length∧∀t,t<pB.length→((∀j o,l[j]? =some o→E j→o.dst≠some t)→T[t]? =pB[t]?)∧(∀j o,l[j]? =some o→E j→o.dst=some t→T[t]? =r6[j]?)
theorem vP.same{l:List Oper}{r6 pB T OB:List aD}{E vQ:Nat→Prop}(h:vP l r6 pB E T)(h':vP l r6 pB vQ OB)(t:Nat)(he: ∀j o,l[j]? =some o→o.dst=some t→(E j↔vQ j)):T[t]? =OB[t]? :=by
 by_cases aG:t<pB.length
 ·by_cases hx: ∃j o,l[j]? =some o∧E j∧o.dst=some t
  ·obtain⟨j,o,aa,ae,aq⟩:=hx
   rw[(h.2 t aG).2 j o aa ae aq,(h'.2 t aG).2 j o aa ((he j o aa aq).1 ae) aq]
  ·have ay: ∀j o,l[j]? =some o→E j→o.dst≠some t:=fun j o aa ae aq=>hx ⟨j,o,aa,ae,aq⟩
   have aV: ∀j o,l[j]? =some o→vQ j→o.dst≠some t:=fun j o aa ae aq=>hx ⟨j,o,aa,(he j o aa aq).2 ae,aq⟩
   rw[(h.2 t aG).1 ay,(h'.2 t aG).1 aV]
 ·rw[List.getElem?_eq_none (by have:=h.1;omega),List.getElem?_eq_none (by have:=h'.1;omega)]
def vR(T:List aD)(dst:Option Nat)(v:aD):List aD:=
 match dst with
 |some d=>T.set d v
 |none=>T
theorem XM(T:List aD)(dst:Option Nat)(v:aD):(vR T dst v).length=T.length:=by
 cases dst<;>simp[vR]
theorem vP.put{l:List Oper}{r6 pB T:List aD}{E:Nat→Prop}(h:vP l r6 pB E T){i:Nat}{o:Oper}{v:aD}(hi:l[i]? =some o)(av:r6[i]? =some v)
 (hd: ∀j p,l[j]? =some p→E j→p.dst≠none→p.dst≠o.dst){vQ:Nat→Prop}(fW: ∀j,vQ j↔E j∨j=i):vP l r6 pB vQ (vR T o.dst v):=by
 refine⟨by rw[XM];exact h.1,fun t aG=>⟨fun hn=>?_,fun j p ai Hy ak=>?_⟩⟩
 ·have aa:=(h.2 t aG).1 fun j p ai Hy=>hn j p ai ((fW j).2 (.inl Hy))
  cases r7:o.dst with
  |none=>exact aa
  |some d=>
   have cf:d≠t:=fun e=>hn i o hi ((fW i).2 (.inr rfl)) (by rw[r7,e])
   simp only[vR];rw[List.getElem?_set_ne cf]
   exact aa
 ·rcases (fW j).1 Hy with aa|aa
  ·have ae:=(h.2 t aG).2 j p ai aa ak
   cases r7:o.dst with
   |none=>exact ae
   |some d=>
    have cf:d≠t:=fun e=>hd j p ai aa (by rw[ak];simp) (by rw[ak,r7,e])
    simp only[vR];rw[List.getElem?_set_ne cf]
    exact ae
  ·subst aa
   rw[hi]at ai;simp only[Option.some.injEq]at ai;subst ai;rw[ak];simp only[vR];rw[List.getElem?_set_self (by have:=h.1;omega),av]
section
variable {P:Program} {G:aY} {db:aM}
abbrev vS(ops:Array Oper)(db:aM)(T:List aD)(o:Oper):aM:=⟨iR (o.looksAt ops) T,db.heap,db.next,db.base⟩
theorem DStep.row{ops:Array Oper}{T:List aD}{o:Oper}{t n:Nat}{es:List (List bd)}(ag:dT ops (vS ops db T o) o=some true)(h:vM P G o (vS ops db T o) t n es):DStep P G ops db T o (.au (.aN n es)):=by
 intro s aa ae aq hlen bF
 have hm:=Hu hlen bF
 have dH:({s with cC:=iR (o.looksAt ops) s.cC}:aM)=vS ops db T o:=by rw[hm,aa,ae,aq]
 refine .inl ⟨by rw[←Hv (ks:=o.looksAt ops) Hx,dH];exact ag,ee.Hs (t:=t) ⟨h.1,fun E a w β ro af=>?_⟩⟩
 have dS:=af.mask (o.looksAt ops)
 rw[dH]at dS
 exact h.2 E a w β ro dS
theorem DStep.call{ops:Array Oper}{T:List aD}{o:Oper}{x:Operand}{xs:Array Operand}{ts:Array TypeId}(an:o.op= .call {callee:=.value x,args:=xs,argTypes:=ts})(ag:dT ops (vS ops db T o) o=some true){f:FuncId}
 (hx:aI G (vS ops db T o) x= .fn (.func f) [] [])(gf:mT P f=true){args:List aD}(h7:xs.toList.map (fun y=>mR db.heap (aI G (vS ops db T o) y))=args)(ox:eL args=true){r:aD}
 (hc:dI P G f args [] 0 fun hN bO=>hN=r∧bO=[])(af:ff r=true)(ad:db.base≤db.next):DStep P G ops db T o r:=by
 refine DStep.of ag fun s aa ae aq ax=>?_
 have OC: ∀y:Operand,(y=x∨y∈xs)→∀t,y= .tmp t→t∈o.looksAt ops:=by
  intro y ax t aG;subst aG;refine List.mem_append_left _ (List.mem_filterMap.2 ⟨.tmp t,?_,rfl⟩)
  rw[an];simp only[Op.operands,Call.operands]
  rcases ax with h|h
  ·rw[←h];simp
  ·simp[h]
 refine ee.XJ an (by rw[ax x (OC x (.inl rfl))];exact hx) gf (args:=args) ?_ ox hc af (by rw[ae,aq];exact ad)
 rw[←h7]
 apply List.map_congr_left
 intro y hm
 rw[aa,ax y (OC y (.inr (by simpa using hm)))]
theorem DStep.cast{ops:Array Oper}{T:List aD}{o:Oper}{v bu:aD}(h:DStep P G ops db T o v)(e:v=bu):DStep P G ops db T o bu:=e ▸ h
end
end Go.aL
namespace Go.aL
open Go
section
variable {P:Program} {G:aY} {o:Oper} {s:aM}
def vT(P:Program)(t:TypeId):Option (TypeId × Nat × List Value):=
 match P.underlying t with
 |some (.slice e)=>match P.info? e,zeroCells P e with
  |some i,some zs=>if zs.all Value.oneCell'∧zs.length=i.size∧0<i.size then some (e,i.size,zs)else none
  |_,_=>none
 |_=>none
def pC(P:Program)(G:aY)(s:aM)(t:TypeId)(len:Nat)(parts:List (Nat × Operand)):Option (TypeId × Nat × List (List bd)):=
 match vT P t with
 |some (e,n,zs)=>
  if len=0 then(if parts.isEmpty then some (e,n,[])else none)
  else if len*n≤16777216∧(parts.map fun p=>(p.1,aI G s p.2)).all (fun p=>(cy p.2).all (ek s.heap))then
   match jQ (fun i=>some (i*n,n)) ((List.replicate len (zs.map fun z=>aD.au (.v z))).flatten) (parts.map fun p=>(p.1,aI G s p.2))with
   |some ds=>match iu ds with
    |some rs=>some (e,n,chunk n len rs)
    |none=>none
   |none=>none
  else none
 |none=>none
theorem Hz{t:TypeId}{len:Nat}{parts:Array (Nat × Operand)}(an:o.op= .buildSlice t len parts){e n:Nat}{es:List (List bd)}(h:pC P G s t len parts.toList=some (e,n,es)):vM P G o s e n es:=by
 unfold pC at h
 split at h
 ·rename_i aw cO zs aG
  unfold vT at aG
  split at aG
  ·rename_i aV hu
   split at aG
   ·rename_i i XN hi br
    split at aG
    ·rename_i hc
     simp only[Option.some.injEq,Prod.mk.injEq]at aG;obtain⟨rfl,rfl,rfl⟩:=aG
     split at h
     ·rename_i hlen
      subst hlen
      split at h
      ·rename_i ak
       simp only[Option.some.injEq,Prod.mk.injEq]at h;obtain⟨rfl,rfl,rfl⟩:=h;refine⟨by simp,fun E a w β ro af=>⟨.slice (some ⟨w.heap.size,0,none⟩) 0 0,[],w.alloc (.cells #[] aV),?_,?_,World.grownBy_alloc w _ none,fun b ad=>by simp[cb]at ad,by simp⟩⟩
       ·have gp:parts= #[]:=by
         apply Array.ext';simpa using ak
        subst gp;simp[execOp,an,Instr.buildSlice,run_underlying hu,sizeOf,typeInfo,hi,Instr.fill,newRow,Sem.run_bind,Array.range_zero']
       ·exact World.ownsRow_lit w #[] 0 (Nat.zero_le _) (Nat.zero_le _) (by simp)
      ·cases h
     ·rename_i hlen
      split at h
      ·rename_i Hg
       split at h
       ·rename_i ds hf
        split at h
        ·rename_i rs qQ
         simp only[Option.some.injEq,Prod.mk.injEq]at h;obtain⟨rfl,rfl,rfl⟩:=h
         have XO:0<len*i.size:=Nat.mul_pos (Nat.pos_of_ne_zero hlen) hc.2.2
         exact Xr t len parts an hu (by simp[hi]) br hc.1 hc.2.1 ⟨XO,Hg.1⟩ rfl Hg.2 hf qQ
        ·cases h
       ·cases h
      ·cases h
    ·cases aG
   ·cases aG
  ·cases aG
 ·cases h
end
theorem XP{k:Nat}(h:k+1≤9223372036854775807):IntKind.i64.wrap ((k:Int)+1)=((k+1:Nat):Int):=by
 rw[dw _ (by omega) (by omega)]
 rfl
end Go.aL
namespace Go.aL
open Go
def vU(m:Option Nat):aD→aD
 | .au (.v (.slice none 0 0))=>match m with
  |some n=>.au (.aN n [])
  |none=>.au (.v (.slice none 0 0))
 |x=>x
def qV:List (Option Nat)→List aD→List aD
 |m::ms,c::cs=>vU m c::qV ms cs
 |_,cs=>cs
def HA(m:List (Option Nat)):aD→aD
 | .agg cs=>.agg (qV m cs)
 |x=>vU (m.headD none) x
def aM.yH(s:aM)(k:Nat)(m:List (Option Nat)):aM:=
 {s with cC:=match s.cC[k]? with|some x=>s.cC.set k (HA m x)|none=>s.cC}
theorem OD{w:World}{ro:Nat→Prop}{σ:bz}{β:Nat→Value}{N:Nat}{m:Option Nat}{x:aD}{c:Value}(h:bp w ro σ β N x c):bp w ro σ β N (vU m x) c:=by
 unfold vU
 split
 ·cases m with
  |none=>exact h
  |some n=>
   refine .au _ _ ?_
   cases h with
   |au _ _ h=>
    cases h;exact .aN n [] none 0 (fun _=>undef) (Nat.le_refl _) (Nat.zero_le _) (by simp) (by simp) (by simp)
 ·exact h
theorem XQ{m:List (Option Nat)}{cs:List aD}{j:Nat}{x:aD}(h:(qV m cs)[j]? =some x): ∃y p,cs[j]? =some y∧x=vU p y:=by
 induction m generalizing cs j with
 |nil=>exact⟨x,none,by simpa[qV]using h,by unfold vU;split<;>rfl⟩
 |cons a m aQ=>
  cases cs with
  |nil=>simp[qV]at h
  |cons c cs=>
   cases j with
   |zero=>simp[qV]at h;exact⟨c,a,rfl,h.symm⟩
   |succ j=>simp only[qV,List.getElem?_cons_succ]at h⊢;exact aQ h
theorem XR(m:List (Option Nat))(cs:List aD):(qV m cs).length=cs.length:=by
 induction m generalizing cs with
 |nil=>rfl
 |cons a m aQ=>cases cs<;>simp[qV,aQ]
theorem XS{w:World}{ro:Nat→Prop}{σ:bz}{β:Nat→Value}{N:Nat}{m:List (Option Nat)}{x:aD}{c:Value}(h:bp w ro σ β N x c):bp w ro σ β N (HA m x) c:=by
 unfold HA
 split
 ·cases h with
  |agg cs c aa ae=>
   refine .agg _ _ (by rw[aa,XR]) fun j y ai=>?_
   obtain⟨z,p,br,rfl⟩:=XQ ai;exact OD (ae j z br)
 ·exact OD h
theorem cL.yH{s bh:aM}(k:Nat)(m:List (Option Nat))(h:s.yH k m=bh):cL s bh:=by
 subst h
 intro E G a w ⟨β,ro,h⟩
 unfold aM.yH
 cases aj:s.cC[k]? with
 |none=>exact⟨β,ro,h⟩
 |some x=>
  refine⟨β,ro,h.defers,by simp[h.size],fun i y ax=>?_,h.heap,h.hT,h.trans,h.base⟩
  rw[List.getElem?_set]at ax
  split at ax
  ·rename_i e
   subst e
   split at ax
   ·simp only[Option.some.injEq]at ax
    subst ax;exact XS (h.slot k x aj)
   ·cases ax
  ·exact h.slot i y ax
end Go.aL
namespace Go.aL
open Go
theorem cL.XT{s bh:aM}(k e n:Nat)(aj:s.cC[k]? =some (.au (.v (.slice none 0 0))))(ad:s.base≤s.next)
 (h:({s with cC:=s.cC.set k (.aN s.next),heap:=(s.next,.row false e n [])::s.heap,next:=s.next+1}:aM)=bh):cL s bh:=by
 subst h
 intro E G a w ⟨β,ro,af⟩
 have k3:aE s.heap s.next=none:=by
  cases ag:aE s.heap s.next with
  |none=>rfl
  |some p=>have:=af.trans.new _ _ ag;omega
 have yI:=bp.val (af.slot k _ aj)
 have ga:=af.new (w':=w) s.next k3 ad (Nat.le_refl _) (.row false e n []) (.slice none 0 0) rfl rfl rfl (Nat.le_refl _) (fun _ _=>rfl) (fun c hc=>by simp[cb]at hc) rfl
  (.row e n [] [] (by rw[ew];exact⟨by simp,.inl ⟨⟨none,rfl,fun _ h=>(by cases h)⟩,rfl⟩⟩) (by simp) (by simp))
 refine⟨_,ro,ga.defers,by simpa using ga.size,fun i y ax=>?_,ga.heap,ga.hT,ga.trans,ga.base⟩
 rw[List.getElem?_set]at ax
 split at ax
 ·rename_i ay
  subst ay
  split at ax
  ·simp only[Option.some.injEq]at ax
   subst ax;refine .aN _ _ (Nat.lt_succ_self _) fun z bs cO eu _=>?_
   rw[yI];exact(ew _ _ _).symm
  ·cases ax
 ·exact ga.slot i y ax
end Go.aL
namespace Go.aL
open Go
def ue(σ:bz):aD→Option bd
 | .au x=>some x
 | .aN id=>match aE σ id with
  |some (.row _ _ n es)=>some (.aN n es)
  |_=>none
 | .ref id=>match aE σ id with
  |some (.bY bE)=>bE.view
  |_=>none
 |_=>none
def yJ(σ:bz):List aD→Option (List bd)
 |[]=>some []
 |x::r=>match ue σ x,yJ σ r with
  |some y,some l=>some (y::l)
  |_,_=>none
mutual
def kB(σ:bz):aD→aD
 | .aN id=>match aE σ id with
  |some (.row _ _ n es)=>.au (.aN n es)
  |_=>.aN id
 | .ptr id off=>match aE σ id with
  |some (.box _ cs)=>(match yJ σ (cs.drop off)with
   |some l=>.au (.ptr l)
   |none=>.ptr id off)
  |_=>.ptr id off
 | .agg cs=>.agg (hI σ cs)
 | .tuple cs=>.tuple (hI σ cs)
 | .fn f p q=>.fn f (hI σ p) (hI σ q)
 | .au x=>.au x
 | .cE id i off=>.cE id i off
 | .dB id n=>.dB id n
 | .ref id=>match aE σ id with
  |some (.bY bE)=>(match bE.view with
   |some x=>.au x
   |none=>.ref id)
  |_=>.ref id
 | .top=>.top
def hI(σ:bz):List aD→List aD
 |[]=>[]
 |x::r=>kB σ x::hI σ r
end
theorem uf(σ:bz): ∀(l:List aD),(hI σ l).length=l.length
 |[]=>rfl
 |x::r=>by simp[hI,uf σ r]
theorem ug(σ:bz): ∀{l:List aD} {j:Nat} {x:aD},(hI σ l)[j]? =some x→∃y,l[j]? =some y∧x=kB σ y
 |[],j,x,h=>by simp[hI]at h
 |y::r,j,x,h=>by
  cases j with
  |zero=>simp[hI]at h;exact⟨y,by simp,h.symm⟩
  |succ j=>simp[hI]at h;simpa using ug σ h
theorem OE(σ:bz): ∀{l:List aD} {m:List bd},yJ σ l=some m→∀{j:Nat} {x:bd},m[j]? =some x→∃y,l[j]? =some y∧ue σ y=some x
 |[],m,h,j,x,ai=>by simp[yJ]at h;subst h;simp at ai
 |y::r,m,h,j,x,ai=>by
  simp only[yJ]at h
  split at h
  ·rename_i z l aa ae
   simp only[Option.some.injEq]at h;subst h
   cases j with
   |zero=>simp at ai;subst ai;exact⟨y,rfl,aa⟩
   |succ j=>simp at ai;simpa using OE σ ae ai
  ·cases h
abbrev uh(ro:Nat→Prop)(σ:bz)(β:Nat→Value):Nat→Prop:=fun b=>ro b∨Own σ β b
theorem OF{w:World}{ro:Nat→Prop}{σ:bz}{β:Nat→Value}{N id:Nat}(a8:hl w ro σ β N){z:Bool}{t:TypeId}{n:Nat}{es:List (List bd)}(ag:aE σ id=some (.row z t n es)):dp w (uh ro σ β) (.aN n es) (β id):=by
 have an:=a8.c4 id _ ag
 cases an with
 |row t n es xs aa ae aq=>exact aa.Hq ae (fun j x ai=>(aq j x ai).keep (fun _ _=>rfl) fun _ h=>.inl h) fun b ad=>.inr ⟨id,_,ag,rfl,ad⟩
 |fQ t n es aa=>exact aa.keep (fun _ _=>rfl) fun _ h=>.inl h
theorem OG{w:World}{ro:Nat→Prop}{σ:bz}{β:Nat→Value}{N id:Nat}(a8:hl w ro σ β N){bE:Bu}(ag:aE σ id=some (.bY bE)){au:bd}(av:bE.view=some au):dp w (uh ro σ β) au (β id):=by
 have an:=a8.c4 id _ ag
 cases an with
 |bY _ b o aa ae aq=>exact bE.WX au av w ro _ _ o b aq aa ae (fun _ h=>.inl h) (.inr ⟨id,_,ag,rfl,aa⟩)
theorem XU{w:World}{ro:Nat→Prop}{σ:bz}{β:Nat→Value}{N:Nat}(a8:hl w ro σ β N){x:aD}{c:Value}{y:bd}(h:bp w ro σ β N x c)(ax:ue σ x=some y):dp w (uh ro σ β) y c:=by
 cases h with
 |au x c hx=>
  simp only[ue,Option.some.injEq]at ax;subst ax;exact hx.keep (fun _ _=>rfl) fun _ h=>.inl h
 |aN id c ao ak=>
  simp only[ue]at ax
  split at ax
  ·rename_i z t n es ag
   simp only[Option.some.injEq]at ax;subst ax;rw[ak z t n es ag];exact OF a8 ag
  ·cases ax
 |ref id c ao ak=>
  simp only[ue]at ax
  split at ax
  ·rename_i bE ag
   rw[ak bE ag];exact OG a8 ag ax
  ·cases ax
 |_=>cases ax
theorem HB{w:World}{ro:Nat→Prop}{σ:bz}{β:Nat→Value}{N:Nat}(a8:hl w ro σ β N){x:aD}{c:Value}(h:bp w ro σ β N x c):bp w (uh ro σ β) σ β N (kB σ x) c:=by
 induction h with
 |aN id c ao ak=>
  simp only[kB]
  split
  ·rename_i z t n es ag
   rw[ak z t n es ag];exact .au _ _ (OF a8 ag)
  ·exact .aN id c ao ak
 |ptr id off c ao ak=>
  simp only[kB]
  split
  ·rename_i t cs ag
   split
   ·rename_i l HC
    obtain⟨b,ad,rfl⟩:=ak t cs ag
    have an:=a8.c4 id _ ag
    cases an with
    |box t cs gm arr ay aV ct eA=>
     rw[ad]at ay;simp only[Value.pointer.injEq,Option.some.injEq,Addr.mk.injEq,and_true]at ay;subst ay
     have at_: ∀j x,l[j]? =some x→∃y,cs[off+j]? =some y∧ue σ y=some x:=fun j x ai=>by
      obtain⟨y,aa,ae⟩:=OE σ HC ai;rw[List.getElem?_drop]at aa
      exact⟨y,aa,ae⟩
     refine .au _ _ (.ptr l _ (fun j=>arr.getD (off+j) undef) (fun j x ai=>?_) fun j x ai=>?_)
     ·obtain⟨y,aa,_⟩:=at_ j x ai
      refine⟨.inr ⟨id,_,ag,rfl,by rw[ad];rfl⟩,?_⟩
      have bA:off+j<arr.size:=by rw[ct];exact(List.getElem?_eq_some_iff.1 aa).1
      rw[addLit,cell_of_row w b (off+j) arr t (0,0) aV];simp[bA]
     ·obtain⟨y,aa,ae⟩:=at_ j x ai
      exact XU a8 (eA _ y aa) ae
   ·exact .ptr id off c ao ak
  ·exact .ptr id off c ao ak
 |au x c h=>exact .au x c (h.keep (fun _ _=>rfl) fun _ h=>.inl h)
 |agg cs c aa _ aQ=>
  refine .agg _ c (by rw[uf];exact aa) fun j x ai=>?_
  obtain⟨y,ax,rfl⟩:=ug σ ai;exact aQ j y ax
 |tuple cs c aa _ aQ=>
  refine .tuple _ c (by rw[uf];exact aa) fun j x ai=>?_
  obtain⟨y,ax,rfl⟩:=ug σ ai;exact aQ j y ax
 |cE id i off c aa ae=>exact .cE id i off c aa ae
 |dB id n c aa ae=>exact .dB id n c aa ae
 |fn f p q c d aa ae _ _ gL gM=>
  refine .fn f _ _ c d (by rw[uf];exact aa) (by rw[uf];exact ae) (fun j x ai=>?_) (fun j x ai=>?_)
  ·obtain⟨y,ax,rfl⟩:=ug σ ai
   exact gL j y ax
  ·obtain⟨y,ax,rfl⟩:=ug σ ai
   exact gM j y ax
 |ref id c ao ak=>
  simp only[kB]
  split
  ·rename_i bE ag
   split
   ·rename_i au av
    rw[ak bE ag];exact .au _ _ (OG a8 ag av)
   ·exact .ref id c ao ak
  ·exact .ref id c ao ak
 |top c=>exact .top c
mutual
def jS:aD→Bool
 | .au (.v _)=>true
 | .agg cs=>mX cs
 | .tuple cs=>mX cs
 |_=>false
def mX:List aD→Bool
 |[]=>true
 |x::r=>jS x&&mX r
end
theorem BT: ∀{cs:List aD},mX cs=true→∀{j:Nat} {x:aD},cs[j]? =some x→jS x=true
 |[],_,j,x,h=>by simp at h
 |y::r,ad,j,x,h=>by
  simp only[mX,Bool.and_eq_true]at ad
  cases j with
  |zero=>simp at h;subst h;exact ad.1
  |succ j=>simp at h;exact BT ad.2 h
theorem BU{w w':World}{ro ro':Nat→Prop}{σ bO:bz}{β yq:Nat→Value}{N M:Nat}{x:aD}{c:Value}(h:bp w ro σ β N x c)(ak:jS x=true):bp w' ro' bO yq M x c:=by
 induction h with
 |au x c h=>
  cases h with
  |v _ hx=>exact .au _ _ (.v _ hx)
  |ptr=>simp[jS]at ak
  |aN=>simp[jS]at ak
  |mp=>simp[jS]at ak
  |li=>simp[jS]at ak
 |agg cs c aa _ aQ=>
  simp only[jS]at ak;exact .agg cs c aa fun j x ai=>aQ j x ai (BT ak ai)
 |tuple cs c aa _ aQ=>
  simp only[jS]at ak;exact .tuple cs c aa fun j x ai=>aQ j x ai (BT ak ai)
 |_=>simp[jS]at ak
section
variable {P:Program} {G:aY} {s:aM}
theorem ee.HD{o:Oper}{x:Operand}{xs:Array Operand}{ts:Array TypeId}(an:o.op= .call {callee:=.value x,args:=xs,argTypes:=ts}){f:FuncId}{p q:List aD}(hx:aI G s x= .fn (.func f) p q)
 (gf:mT P f=true){args:List aD}(h7:hI s.heap (p++xs.toList.map (aI G s)++q)=args)(ox:eL args=true){r:aD}(hc:dI P G f args [] 0 fun hN ui=>hN=r∧ui=[])(hsc:jS r=true):
 ee P G o s (s.put o.dst r):=by
 intro E a w ⟨β,ro,h⟩ Xj Xk G9
 have jo:=h.eval x
 rw[hx]at jo
 generalize he:a.eval x=BI at jo
 cases jo with
 |fn _ _ _ c d aa ae ak aJ=>
  unfold Oper.wp;simp only[execOp,an,resolve,he,Deferred.ofValue,Sem.run_bind,Sem.run_pure,Result.andThen_ok,invoke];rw[BG gf]
  have nE: ∀b,Own s.heap β b→b<w.heap.size:=fun b ⟨k,p,aj,ak,a7⟩=>(h.heap.c4 k p aj).hk ak a7
  have hlen:args.length=p.length+xs.size+q.length:=by rw[←h7,uf];simp[Nat.add_assoc]
  have dQ: ∀i y,(p++xs.toList.map (aI G s)++q)[i]? =some y→bp w ro s.heap β s.next y ((c++xs.map a.eval++d).getD i undef):=fun i y ax=>by
   rw[Array.getD_eq_getD_getElem?]
   rcases Nat.lt_or_ge i (p.length+xs.size)with hi|hi
   ·rw[List.getElem?_append_left (by simpa using hi)]at ax
    rw[Array.getElem?_append_left (by simpa[aa]using hi)]
    rcases Nat.lt_or_ge i p.length with jF|jF
    ·rw[List.getElem?_append_left jF]at ax
     rw[Array.getElem?_append_left (by omega),←Array.getD_eq_getD_getElem?]
     exact ak i y ax
    ·rw[List.getElem?_append_right jF,List.getElem?_map]at ax
     rw[Array.getElem?_append_right (by omega),aa]
     cases br:xs.toList[i-p.length]? with
     |none=>simp[br]at ax
     |some z=>
      simp only[br,Option.map_some,Option.some.injEq]at ax;subst ax
      have uj:xs[i-p.length]? =some z:=by simpa using br
      simp only[Array.getElem?_map,uj,Option.map_some,Option.getD_some]
      exact h.eval z
   ·rw[List.getElem?_append_right (by simpa using hi)]at ax
    rw[Array.getElem?_append_right (by simpa[aa]using hi),←Array.getD_eq_getD_getElem?]
    have:=aJ _ y ax
    simpa[aa]using this
  have gO:=hc w β (uh ro s.heap β) (c++xs.map a.eval++d) (by simp only[Array.size_append,Array.size_map];omega) (fun i y ax=>by
   rw[←h7]at ax;obtain⟨z,br,rfl⟩:=ug _ ax
   exact nG (HB h.heap (dQ i z br)) (mS ox (by rw[←h7];exact ax))) ⟨by simp[aE],by simp[aE],fun b _ ⟨_,_,ag,_⟩=>by simp[aE]at ag,fun b ad=>ad.elim (h.heap.lt b) (nE b)⟩
   (h.hT.keep (fun _ _=>rfl) fun _ h=>.inl h) (by simp[aE])
  refine Calls.mono gO fun e w' aJ=>?_
  obtain⟨v,er,fg,dR,ro',cO,rfl,⟨rfl,rfl⟩,dk,hs,cq⟩:=aJ
  have jH: ∀b,¬Own ([]:bz) β b:=fun b ⟨_,_,ag,_⟩=>by simp[aE]at ag
  have lE: ∀b,b<w.heap.size→w'.heap[b]? =w.heap[b]? :=fun b ad=>cq.frame b ad (jH b)
  have ag:=h.grow (w':=w') (ro':=ro) cq.os cq.tape cq.output cq.size lE (fun _ h=>h) (fun _ h=>.inl h)
  exact G9 _ _ ⟨β,ro,ag.put o.dst _ _ (BU dk hsc)⟩
theorem XV{o:Oper}{f:FuncId}{p q:Array Operand}(an:o.op= .makeFunc (.func f) p q):cT P G o s (.fn (.func f) (p.toList.map (aI G s)) (q.toList.map (aI G s))):=
 fun _ a w β ro af=>by
  refine⟨.func (.func f) (p.map a.eval) (q.map a.eval),by simp[execOp,an,Instr.makeFunc],.fn _ _ _ _ _ (by simp) (by simp) (fun j x ai=>?_) (fun j x ai=>?_)⟩<;>
  ·rw[List.getElem?_map]at ai
   rw[Array.getD_eq_getD_getElem?,Array.getElem?_map]
   simp only[Array.getElem?_toList]at ai
   obtain⟨z,br,rfl⟩:=Option.map_eq_some_iff.1 ai;simp only[br,Option.map_some,Option.getD_some];exact af.eval z
end
end Go.aL
namespace Go.aL
open Go
inductive Hint (P:Program) (G:aY):Type 1 where
 |run (n:Nat)
 |cast (u v:aD) (h:u=v)
 |idx {α:Type} (C:α→List bd) (l:List α) (n j:Nat) (e:α) (h:l[j]? =some e)
 |OH (b:ByteArray) (j:Nat) (u:UInt8) (h:b.data.toList[j]? =some u)
 |len {α:Type} (C:α→List bd) (l:List α) (n:Nat)
 |call (f:FuncId) (args:List aD) (r:aD) (bO:bz) (K:Nat) (h:dI P G f args [] 0 fun hN ui=>hN=r∧ui=bO)
 |take {α:Type} (C:α→List bd) (l:List α) (n k:Nat) (h:k≤l.length)
 |OI {α:Type} (C:α→List bd) (l:List α) (e n:Nat)
 |app {α:Type} (C:α→List bd) (l m:List α) (id e n bytes:Nat) (h:l.length+m.length≤maxLen∧(l.length+m.length)*bytes≤140737488355328)
 |OJ (mx:Bool) (a b:Int)
 |lit (e n:Nat) (es:List (List bd))
 |row (e n:Nat) (es:List (List bd))
 |OK (b:ByteArray)
 |yH (k:Nat) (m:List (Option Nat))
 |yD (id:Nat)
 |OL {α:Type} (C:α→List bd) (l:List α) (id n j:Nat) (h:j<l.length)
 |OM {α:Type} (C:α→List bd) (l:List α) (id n:Nat)
 |ON {α:Type} (C:α→List bd) (l:List α) (id n j off k:Nat) (e:α) (h:l[j]? =some e)
 |OO {α:Type} (C:α→List bd) (l:List α) (id n j off:Nat) (e:α) (h:l[j]? =some e)
 |mk {α:Type} (C:α→List bd) (d:α) (m c e n bytes:Nat) (h:m≤c∧c≤maxLen∧bytes*c≤281474976710656)
 |OP (j:Nat)
 |OQ {α:Type} (C:α→List bd) (l:List α) (n:Nat) (lo hi:Option Nat) (aa:lo.getD 0≤hi.getD l.length) (ae:hi.getD l.length≤l.length)
 |OR (b:ByteArray) (lo hi:Option Nat) (aa:lo.getD 0≤hi.getD b.size) (ae:hi.getD b.size≤b.size)
 |slot (k:Nat) (u v:aD) (h:u=v)
 |HE (k e n:Nat)
 |OS {α:Type} (C:α→List bd) (l:List α) (id n j off:Nat) (e:α) (h:l[j]? =some e)
 |OT {α:Type} (C:α→List bd) (l:List α) (id n j off:Nat) (e aw:α) (h:l[j]? =some e)
 |OU
 |HD (f:FuncId) (p q args:List aD) (r:aD) (h:dI P G f args [] 0 fun hN ui=>hN=r∧ui=[])
def yK:bd→bd
 | .aN _ []=>.v (.slice none 0 0)
 | .li _ []=>.v (.slice none 0 0)
 |x=>x
theorem XW{w:World}{ro:Nat→Prop}{x:bd}{v:Value}(h:yK x= .v v)(av:v.oneCell'=true):dp w ro x v:=by
 unfold yK at h
 split at h
 ·rename_i n
  simp only[bd.v.injEq]at h;subst h;exact .aN n [] none 0 (fun _=>undef) (Nat.le_refl _) (Nat.zero_le _) (by simp) (by simp) (by simp)
 ·rename_i i
  simp only[bd.v.injEq]at h;subst h;exact .li i [] _ (.aN (c5 i) [] none 0 (fun _=>undef) (Nat.le_refl _) (Nat.zero_le _) (by simp) (by simp) (by simp))
 ·subst h
  exact .v _ av
section
variable {P:Program} {G:aY} {o:Oper} {s:aM}
theorem XX{α:Type}(C:α→List bd)(d:α)(m c:Nat){t:TypeId}{x y:Operand}(an:o.op= .makeSlice t x y){e n bytes:Nat}(aG:px P t=some (e,n,bytes)){zs:List Value}(br:zeroCells P e=some zs)(rZ:zs.all Value.oneCell'=true)
 (hd:zs.map bd.v=(C d).map yK)(hx:aI G s x=iw (m:Int))(ax:aI G s y=iw (c:Int))(bJ:m≤c∧c≤maxLen∧bytes*c≤281474976710656):
 vM P G o s e n ((List.replicate m d).map C):=by
 obtain⟨i,z,hu,hi,OV,h9,iQ,oz,hn⟩:=BO aG
 obtain⟨h5,_,oq,yv,gA,uj⟩:=yj (P:=P) br default
 have OW:z.cells=zs.toArray:=by
  rw[hi]at gA;simp only[Option.some.injEq]at gA;subst gA;rw[OV]at uj;simp only[Option.some.injEq]at uj;subst uj;exact oq
 have l9:zs.length=n:=by rw[←oz,OW];simp
 have nI:(C d).length=n:=by rw[←l9];have:=congrArg List.length hd;simpa using this.symm
 have nD: ∀q∈(List.replicate m d).map C,q.length=n:=by
  intro q aJ;rw[List.mem_map]at aJ;obtain⟨u,hu,rfl⟩:=aJ;rw[List.mem_replicate]at hu;rw[hu.2];exact nI
 refine⟨nD,fun E a w β ro af=>?_⟩
 have XY:(c:Int)≤9223372036854775807:=by
  have h:=bJ.2.1
  simp only[maxLen]at h;omega
 have yC:(i.bytes:Int)*(c:Int)≤281474976710656:=by
  have h:((i.bytes*c:Nat):Int)≤281474976710656:=by rw[iQ];have:=bJ.2.2;omega
  rwa[Int.natCast_mul]at h
 have cS:=run_make (P:=P) w t e i z hu hi OV .i64 .i64 (m:Int) (c:Int) (by omega) (by have:=bJ.1;omega) yC XY
 simp only[Int.toNat_natCast,h9]at cS
 refine⟨.slice (some ⟨w.heap.size,0,none⟩) m c,(madeCells z.cells (c*n)).toList.take (m*n),_,by simp only[execOp,an,af.en hx,af.en ax,Sem.run_bind,cS,Result.andThen_ok,Sem.run_pure],⟨?_,.inr ⟨w.heap.size,c,madeCells z.cells (c*n),by rw[List.length_map,List.length_replicate],Nat.zero_le _,heap_alloc_new w _,by rw[List.length_map,List.length_replicate];exact bJ.1,bJ.2.1,size_madeCells _ _,by rw[List.length_map,List.length_replicate]⟩⟩,World.grownBy_alloc w _ none,fun b a7=>?_,fun j x ai=>?_⟩
 ·rw[List.length_take,Array.length_toList,size_madeCells,List.length_map,List.length_replicate,Nat.min_eq_left (Nat.mul_le_mul_right _ bJ.1)]
 ·simp only[cb]at a7
  split at a7
  ·cases a7
  ·simp at a7;omega
 ·have dP:j<m*n:=by
   have:=(List.getElem?_eq_some_iff.1 ai).1
   rwa[jM nD,List.length_map,List.length_replicate]at this
  have hm:j=(j/ n)*n+j%n:=by rw[Nat.mul_comm];exact(Nat.div_add_mod j n).symm
  have nH:j%n<n:=Nat.mod_lt _ hn
  have XZ:j/ n<m:=by rw[Nat.div_lt_iff_lt_mul hn];exact dP
  rw[hm,qA nD (i:=j/ n) (e:=C d) (by simp[XZ]) (j%n) nH]at ai
  have aq:j%n<zs.length:=by omega
  have yi:j<c*n:=Nat.lt_of_lt_of_le dP (Nat.mul_le_mul_right _ bJ.1)
  have ay:((madeCells z.cells (c*n)).toList.take (m*n)).getD j undef=zs[j%n]:=by
   simp[List.getD,dP,madeCells,OW,yi,l9,List.getElem?_eq_getElem aq]
  rw[ay]
  have OX:=congrArg (·[j%n]?) hd
  simp only[List.getElem?_map,ai,List.getElem?_eq_getElem aq,Option.map_some,Option.some.injEq]at OX
  refine XW OX.symm ?_
  rw[List.all_eq_true]at rZ;exact rZ _ (List.getElem_mem aq)
end
section
variable {P:Program} {G:aY} {o:Oper} {s:aM}
theorem OY(j:Nat){t:TypeId}{x i:Operand}(an:o.op= .index t x i){len e:Nat}(hu:P.underlying t=some (.array len e))(hsc:scalar P e=true)(bJ:(P.info? e).map (·.size)=some 1)(hi:aI G s i=iw (j:Int)){cs:List aD}(hx:aI G s x= .agg cs){v:aD}(av:cs[j]? =some v)(ai:j<len):cT P G o s v:=
 fun _ a w β ro af=>by
  have h:=af.eval x
  rw[hx]at h;generalize he:a.eval x=c at h
  cases h with
  |agg _ c ah hc=>
   have bA:j<c.size:=by have:=(List.getElem?_eq_some_iff.1 av).1;omega
   have yy:(sizeOf e).run P w= .ok 1 w:=by
    cases hi:P.info? e with
    |none=>simp[hi]at bJ
    |some i=>simp[hi]at bJ;simp[sizeOf,typeInfo,hi,bJ]
   refine⟨c[j],?_,by simpa[bA]using hc _ v av⟩
   simp[execOp,an,he,af.en hi,Instr.index,asIntOf,run_underlying hu,yy,part,yd hsc,bA,ai]
end
section
variable {P:Program} {G:aY}
def BV:Hint P G→aD
 | .run _=>.top
 | .cast u _ _=>u
 | .idx C l n j _ _=>.tuple [.au (.aN n (l.map C)),iw (j:Int)]
 | .OH b j _ _=>.tuple [vs b,iw (j:Int)]
 | .len C l n=>.au (.aN n (l.map C))
 | .call f args _ _ _ _=>.tuple (.fn (.func f) [] []::args)
 | .take C l n k _=>.tuple [.au (.aN n (l.map C)),iw (k:Int)]
 | .OI C l _ n=>.au (.aN n (l.map C))
 | .app C l m id _ n _ _=>.tuple [.aN id,.au (.aN n (l.map C)),.au (.aN n (m.map C))]
 | .OJ _ a b=>.tuple [iw a,iw b]
 | .lit _ n es=>.au (.aN n es)
 | .row _ n es=>.au (.aN n es)
 | .OK b=>vs b
 | .yH _ _=>.top
 | .yD _=>.top
 | .OL C l id n j _=>.tuple [.aN id,.au (.aN n (l.map C)),iw (j:Int)]
 | .OM C l id n=>.tuple [.aN id,.au (.aN n (l.map C))]
 | .ON C l id n j off _ _ _=>.tuple [.cE id j off,.au (.aN n (l.map C))]
 | .OO C l id n j off _ _=>.tuple [.cE id j off,.au (.aN n (l.map C))]
 | .mk C d m c _ _ _ _=>.tuple [iw (m:Int),iw (c:Int),.au (.ptr ((C d).map yK))]
 | .OP j=>iw (j:Int)
 | .OQ C l n lo hi _ _=>.tuple [.au (.aN n (l.map C)),(match lo with|some k=>iw (k:Int)|none=>.top),(match hi with|some k=>iw (k:Int)|none=>.top)]
 | .OR b lo hi _ _=>.tuple [vs b,(match lo with|some k=>iw (k:Int)|none=>.top),(match hi with|some k=>iw (k:Int)|none=>.top)]
 | .slot _ u _ _=>u
 | .HE _ _ _=>.top
 | .OS C l id n j off _ _=>.tuple [.cE id j off,.au (.aN n (l.map C))]
 | .OT C l id n j off _ aw _=>.tuple [.cE id j off,.au (.aN n (l.map C)),.au (.ptr (C aw))]
 | .OU=>.top
 | .HD f p q args _ _=>.tuple (.fn (.func f) p q::args)
def rowOf(σ:bz)(id n:Nat):Option (TypeId × List (List bd)):=
 match aE σ id with
 |some (.row false t m es)=>match Nat.beq m n with
  |true=>some (t,es)
  |false=>none
 |_=>none
def pD(P:Program)(G:aY)(o:Oper)(s:aM):Hint P G→Option (aD × aM)
 | .cast _ v _=>match qS P G o s with
  |some a=>some (a,s.put o.dst v)
  |none=>none
 | .idx C _ n _ e _=>match o.op with
  | .indexAddr t x i=>match jP P t with
   |some cO=>match Nat.beq cO n with
    |true=>some (.tuple [aI G s x,aI G s i],s.put o.dst (.au (.ptr (C e))))
    |false=>none
   |none=>none
  |_=>none
 | .OH _ _ u _=>match o.op with
  | .index t x i=>match isStr P t with
   |true=>some (.tuple [aI G s x,aI G s i],s.put o.dst (.au (.v (.int .u8 (u.toNat:Int)))))
   |false=>none
  |_=>none
 | .len _ l _=>match o.op with
  | .call c=>match c.callee,c.args.toList,c.argTypes.toList with
   | .builtin .len,[x],[t]=>match isSlice P t with
    |true=>some (aI G s x,s.put o.dst (iw (l.length:Int)))
    |false=>none
   |_,_,_=>none
  |_=>none
 | .call f _ r bO K _=>match o.op with
  | .call c=>match c.callee with
   | .value x=>match mT P f&&(eL (c.args.toList.map fun y=>mR s.heap (aI G s y))&&(gd K r&&(k5 K bO&&Nat.ble s.base s.next)))with
    |true=>some (.tuple (aI G s x::c.args.toList.map fun y=>mR s.heap (aI G s y)),{s with heap:=k6 s.next bO++s.heap,next:=s.next+K}.put o.dst (pw s.next r))
    |false=>none
   |_=>none
  |_=>none
 | .take C l n k _=>match o.op with
  | .slice t x none (some y) none=>match jP P t with
   |some cO=>match Nat.beq cO n with
    |true=>some (.tuple [aI G s x,aI G s y],s.put o.dst (.au (.aN n ((l.take k).map C))))
    |false=>none
   |none=>none
  |_=>none
 | .OI _ _ _ _=>none
 | .app C l m id e n bytes _=>match o.op with
  | .call c=>match c.callee,c.args.toList,c.argTypes.toList with
   | .builtin .append,[x,y],[t,bs]=>match px P t with
    |some (aw,cO,gm)=>match Nat.beq t bs&&(Nat.beq aw e&&(Nat.beq cO n&&(Nat.beq gm bytes&&(Nat.ble s.base id&&Nat.blt id s.next)))),rowOf s.heap id n with
     |true,some (aV,es)=>match Nat.beq aV e with
      |true=>some (.tuple [aI G s x,.au (.aN n es),aI G s y],aM.put ⟨eg id s.cC,(id,.row false e n ((l++m).map C))::dr id s.heap,s.next,s.base⟩ o.dst (.aN id))
      |false=>none
     |_,_=>none
    |none=>none
   |_,_,_=>none
  |_=>none
 | .OJ mx a b=>match o.op with
  | .call c=>match c.callee,c.args.toList,mx with
   | .builtin .min,[x,y],false=>some (.tuple [aI G s x,aI G s y],s.put o.dst (iw (if b<a then b else a)))
   | .builtin .max,[x,y],true=>some (.tuple [aI G s x,aI G s y],s.put o.dst (iw (if b>a then b else a)))
   |_,_,_=>none
  |_=>none
 | .lit e n es=>match o.op with
  | .buildSlice t len parts=>match pC P G s t len parts.toList with
   |some (aw,cO,eu)=>match Nat.beq aw e&&Nat.beq cO n with
    |true=>some (.au (.aN n eu),s.put o.dst (.au (.aN n es)))
    |false=>none
   |none=>none
  |_=>none
 | .row e n es=>match o.op with
  | .buildSlice t len parts=>match pC P G s t len parts.toList with
   |some (aw,cO,eu)=>match Nat.beq aw e&&(Nat.beq cO n&&Nat.ble s.base s.next)with
    |true=>some (.au (.aN n eu),{s with heap:=(s.next,.row false e n es)::s.heap,next:=s.next+1}.put o.dst (.aN s.next))
    |false=>none
   |none=>none
  |_=>none
 | .OK b=>match o.op with
  | .range t x=>match isStr P t&&Nat.ble s.base s.next with
   |true=>some (aI G s x,{s with heap:=(s.next,.bY (pz b 0))::s.heap,next:=s.next+1}.put o.dst (.ref s.next))
   |false=>none
  |_=>none
 | .OL _ _ id n j _=>match o.op with
  | .indexAddr t x i=>match jP P t,rowOf s.heap id n with
   |some cO,some (_,es)=>match Nat.beq cO n with
    |true=>some (.tuple [aI G s x,.au (.aN n es),aI G s i],s.put o.dst (.cE id j 0))
    |false=>none
   |_,_=>none
  |_=>none
 | .OM _ l id n=>match o.op with
  | .call c=>match c.callee,c.args.toList,c.argTypes.toList with
   | .builtin .len,[x],[t]=>match isSlice P t,rowOf s.heap id n with
    |true,some (_,es)=>some (.tuple [aI G s x,.au (.aN n es)],s.put o.dst (iw (l.length:Int)))
    |_,_=>none
   |_,_,_=>none
  |_=>none
 | .ON C _ id n _ off k e _=>match o.op with
  | .load t x=>match l2 P t,rowOf s.heap id n with
   |some bo,some (_,es)=>match Nat.beq bo k&&(Nat.ble 1 k&&Nat.ble k ((C e).drop off).length)with
    |true=>some (.tuple [aI G s x,.au (.aN n es)],s.put o.dst (.agg ((((C e).drop off).map aD.au).take k)))
    |false=>none
   |_,_=>none
  |_=>none
 | .OO C _ id n _ off e _=>match o.op with
  | .load t x=>match scalar P t,rowOf s.heap id n,(C e).drop off with
   |true,some (_,es),v::_=>some (.tuple [aI G s x,.au (.aN n es)],s.put o.dst (.au v))
   |_,_,_=>none
  |_=>none
 | .OQ C l n lo hi _ _=>match o.op with
  | .slice t x yL yM none=>match jP P t,yL.isSome==lo.isSome&&yM.isSome==hi.isSome with
   |some cO,true=>match Nat.beq cO n with
    |true=>some (.tuple [aI G s x,(match yL with|some y=>aI G s y|none=>.top),(match yM with|some y=>aI G s y|none=>.top)],s.put o.dst (.au (.aN n (((l.take (hi.getD l.length)).drop (lo.getD 0)).map C))))
    |false=>none
   |_,_=>none
  |_=>none
 | .OR b lo hi _ _=>match o.op with
  | .slice t x yL yM none=>match isStr P t&&(yL.isSome==lo.isSome&&yM.isSome==hi.isSome)with
   |true=>some (.tuple [aI G s x,(match yL with|some y=>aI G s y|none=>.top),(match yM with|some y=>aI G s y|none=>.top)],s.put o.dst (vs (b.extract (lo.getD 0) (hi.getD b.size))))
   |false=>none
  |_=>none
 | .OP j=>match o.op with
  | .index t x i=>match P.underlying t,aI G s x with
   |some (.array len e),.agg cs=>match cs[j]?,scalar P e&&(Nat.blt j len&&((P.info? e).map (·.size)==some 1))with
    |some v,true=>some (aI G s i,s.put o.dst v)
    |_,_=>none
   |_,_=>none
  |_=>none
 | .mk C d m _ e n bytes _=>match o.op with
  | .makeSlice t x y=>match px P t,zeroCells P e with
   |some (aw,cO,gm),some zs=>match Nat.beq aw e&&(Nat.beq cO n&&(Nat.beq gm bytes&&(zs.all Value.oneCell'&&Nat.ble s.base s.next)))with
    |true=>some (.tuple [aI G s x,aI G s y,.au (.ptr (zs.map bd.v))],{s with heap:=(s.next,.row false e n ((List.replicate m d).map C))::s.heap,next:=s.next+1}.put o.dst (.aN s.next))
    |false=>none
   |_,_=>none
  |_=>none
 | .OS _ _ id n j off _ _=>match o.op with
  | .fieldAddr t x f=>match rX P t f,rowOf s.heap id n with
   |some k,some (_,es)=>some (.tuple [aI G s x,.au (.aN n es)],s.put o.dst (.cE id j (off+k)))
   |_,_=>none
  |_=>none
 | .OT C l id n j off e aw _=>match o.op with
  | .store t p x=>match rowOf s.heap id n,iu (cy (aI G s x))with
   |some (bt,es),some vs=>match((P.info? t).map (·.size)==some vs.length)&&Nat.ble (off+vs.length) n with
    |true=>some (.tuple [aI G s p,.au (.aN n es),.au (.ptr (dW (C e) off vs))],{s with heap:=eU s.heap id (.row false bt n ((l.set j aw).map C))}.put o.dst .top)
    |false=>none
   |_,_=>none
  |_=>none
 | .OU=>match o.op with
  | .makeFunc (.func f) p q=>some (.top,s.put o.dst (.fn (.func f) (p.toList.map (aI G s)) (q.toList.map (aI G s))))
  |_=>none
 | .HD f p q _ r _=>match o.op with
  | .call c=>match c.callee with
   | .value x=>match mT P f&&(eL (hI s.heap (p++c.args.toList.map (aI G s)++q))&&jS r)with
    |true=>some (.tuple (aI G s x::hI s.heap (p++c.args.toList.map (aI G s)++q)),s.put o.dst r)
    |false=>none
   |_=>none
  |_=>none
 |_=>none
theorem OZ{α:Type}{a:Array α}{x:α}(h:a.toList=[x]):a= #[x]:=by apply Array.ext';simpa using h
theorem yN{α:Type}{a:Array α}{x y:α}(h:a.toList=[x,y]):a= #[x,y]:=by apply Array.ext';simpa using h
end
end Go.aL
