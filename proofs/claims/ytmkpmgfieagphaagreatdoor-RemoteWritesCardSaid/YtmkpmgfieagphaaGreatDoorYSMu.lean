/- The AV calculus, part K: append, make, cuts of slices and strings, small builtins, conversions. Conditions: none. -/
import Derived.Test.YtmkpmgfieagphaaGreatDoorYSMj
import Derived.Maps.AppendAt
import Derived.Orders
import Derived.Laws.RangeString
import Derived.Laws.RangeAny
namespace Go.aO
open Go
def fy(σ:Heap)(n:Nat):aF→Option (List (List bb))
 | .aw (.aR m es)=>if m=n then some es else none
 | .aw (.v (.slice none 0 0))=>some []
 | .aw (.li i l)=>if b5 i=n then some (l.map (cj i))else none
 | .aR id=>match aG σ id with
  |some (.row _ _ m es)=>if m=n then some es else none
  |_=>none
 |_=>none
section
variable {P:Program} {G:bd} {o:Oper} {s:aU}
theorem cZ.elems{w:World}{ro:Nat→Prop}{n:Nat}{es:List (List bb)}{c:Value}(h:cZ w ro (.aR n es) c):
 ∃b cap,c= .slice b es.length cap∧(∀e∈es,e.length=n)∧(b=none→es=[])∧∃f:Nat→Value,(∀a,b=some a→∀j,j<es.length*n→w.cell? (a.add j)=some (f j))∧∀j x,es.flatten[j]? =some x→cZ w ro x (f j):=by
 cases h with
 |aR _ _ b cap f aa ae au aW bN=>
  refine⟨b,cap,rfl,au,fun ad=>?_,f,fun a ba j af=>?_,bN⟩
  ·rcases Nat.eq_zero_or_pos es.length with h|h
   ·exact List.eq_nil_of_length_eq_zero h
   ·obtain⟨a,ba,_⟩:=aW h
    rw[ad]at ba;cases ba
  ·have ak:0<es.length:=by
    rcases Nat.eq_zero_or_pos es.length with h|h
    ·rw[h]at af;simp at af
    ·exact h
   obtain⟨bf,KB,hc⟩:=aW ak;rw[ba]at KB;simp only[Option.some.injEq]at KB;subst KB;exact(hc j af).2
theorem wy{w:World}{ro:Nat→Prop}{σ:Heap}{β:Nat→Value}{N:Nat}(bk:gY w ro σ β N){x:aF}{c:Value}(h:bF w ro σ β N x c){n:Nat}{es:List (List bb)}(he:fy σ n x=some es):
 ∃b cap,c= .slice b es.length cap∧(∀e∈es,e.length=n)∧(b=none→es=[])∧∃f:Nat→Value,(∀a,b=some a→∀j,j<es.length*n→w.cell? (a.add j)=some (f j))∧∀j x,es.flatten[j]? =some x→cZ w ro x (f j):=by
 cases h with
 |aw x c hx=>
  cases x with
  |v y=>
   cases hx
   cases c with
   |slice a l hW=>
    cases a with
    |none=>
     cases l with
     |zero=>
      cases hW with
      |zero=>
       simp[fy]at he;subst he;exact⟨none,0,rfl,by simp,fun _=>rfl,fun _=>undef,by simp,by simp⟩
      |succ=>simp[fy]at he
     |succ=>simp[fy]at he
    |some=>simp[fy]at he
   |_=>simp[fy]at he
  |ptr=>simp[fy]at he
  |mp=>simp[fy]at he
  |er=>simp[fy]at he
  |li i l=>
   simp only[fy]at he
   split at he
   ·rename_i hm
    subst hm;simp only[Option.some.injEq]at he;subst he
    cases hx with
    |li _ _ _ hx=>exact hx.elems
   ·cases he
  |aR m dR=>
   simp only[fy]at he
   split at he
   ·rename_i hm
    subst hm;simp only[Option.some.injEq]at he;subst he;exact hx.elems
   ·cases he
 |aR id c ar ak=>
  simp only[fy]at he
  split at he
  ·rename_i z t m dR ah
   split at he
   ·rename_i hm
    subst hm;simp only[Option.some.injEq]at he;subst he;rw[ak z t _ _ ah]
    have dr:=bk.dh id _ ah
    cases dr with
    |row _ _ _ xs aa ae au=>
     rcases aa.2 with⟨⟨b,ax,_⟩,aS⟩|⟨g,cap,cur,ax,hc,zdv,hle,h9,dL,lp⟩
     ·have:dR=[]:=List.eq_nil_of_length_eq_zero aS
      subst this;rw[ax];exact⟨b,0,rfl,by simp,fun _=>rfl,fun _=>undef,by simp,by simp⟩
     ·rw[ax]
      refine⟨_,_,rfl,ae,by simp,fun j=>xs.getD j undef,fun a ba j af=>?_,au⟩
      simp only[Option.some.injEq]at ba;subst ba;rw[addLit,Nat.zero_add,cell_of_row w g j cur t (0,0) zdv]
      have hx:xs[j]? =cur[j]? :=by rw[←lp,List.getElem?_take,if_pos af];simp
      have jI:j<xs.length:=by rw[aa.1];exact af
      rw[←hx];simp[List.getD,List.getElem?_eq_getElem jI]
    |gi _ _ _ aa=>exact aa.elems
   ·cases he
  ·cases he
 |_=>simp[fy]at he
theorem Dj{w:World}(t ty e:TypeId){i:TypeInfo}{z:Value}{n bytes:Nat}(aK:P.underlying t=some (.slice e))(hi:P.info? e=some i)(aS:i.zero=some z)(iB:i.size=n)(jr:i.bytes=bytes)(fe:z.cells.size=n)(hn:0<n)
 {v:Value}{len:Nat}{xs:List Value}(db:h6 w e n v len xs){b:Option Addr}{m cap:Nat}{news:List Value}(ar:news.length=m*n)(ad:b=none→m=0)(zdw: ∀a,b=some a→∀j u,news[j]? =some u→w.cell? (a.add j)=some u)
 (aa: ∀u∈news,u.oneCell'=true)(sl:len+m≤maxLen)(zB:(len+m)*bytes≤140737488355328):
 ∃bp w',(Builtin.append_ #[t,t] ty #[v,.slice b m cap]).run P w= .ok bp w'∧h6 w' e n bp (len+m) (xs++news)∧w.grownBy w' (b9 v)∧(∀k,b9 bp=some k→b9 v=some k∨w.heap.size≤k):=by
 by_cases hm:m=0
 ·subst hm
  have q4:news=[]:=List.eq_nil_of_length_eq_zero (by simpa using ar)
  subst q4;refine⟨v,w,?_,by simpa using db,World.grownBy.refl w _,fun k aj=>.inl aj⟩
  have Dk:(Builtin.firstCells n 0 (.slice b 0 cap)).run P w= .ok #[] w:=by
   cases b with
   |none=>simp[Builtin.firstCells]
   |some a=>simp[Builtin.firstCells,loadCells,loadCellsFrom]
  rcases db.2 with⟨⟨c,rfl,_⟩,rfl⟩|⟨g,hW,cur,rfl,_,_,hle,_⟩
  ·cases c<;>simp[Builtin.append_,run_underlying aK,sizeOf,typeInfo,hi,iB,Builtin.lenOf,Dk,storeCells]
  ·simp[Builtin.append_,run_underlying aK,sizeOf,typeInfo,hi,iB,Builtin.lenOf,Dk,storeCells,hle]
 ·cases b with
  |none=>exact absurd (ad rfl) hm
  |some a=>
   have e1:=zdw a rfl
   have own:w.ownsRow 0 e n v len xs→_:=fun hv=>run_append_own_at (P:=P) w 0 t ty e i z n bytes aK hi aS iB jr fe hn v len xs hv a m cap news ar e1 aa sl zB (Nat.zero_le _)
   have fin:w.ownsRow 0 e n v len xs→v.ownBlock=b9 v→∃bp w',(Builtin.append_ #[t,t] ty #[v,.slice (some a) m cap]).run P w= .ok bp w'∧h6 w' e n bp (len+m) (xs++news)∧w.grownBy w' (b9 v)∧(∀k,b9 bp=some k→b9 v=some k∨w.heap.size≤k):=by
    intro hv bm;obtain⟨bp,w',g1,g2,g3,_,g5⟩:=own hv;refine⟨bp,w',g1,.Di g2,bm ▸ g3,fun k aj=>?_⟩
    have eA:bp.ownBlock=some k:=by
     cases bp with
     |slice c l p=>
      cases c with
      |none=>simp[b9]at aj
      |some c=>
       simp only[b9]at aj
       split at aj
       ·cases aj
       ·simpa[Value.ownBlock]using aj
     |pointer c=>
      rcases g2.2 with⟨h,_⟩|⟨_,_,_,h,_⟩<;>cases h
     |map c=>
      rcases g2.2 with⟨h,_⟩|⟨_,_,_,h,_⟩<;>cases h
     |_=>simp[b9]at aj
    rcases g5 with h|h
    ·rw[h,bm]at eA;exact .inl eA
    ·rw[h]at eA;simp at eA;exact .inr (by omega)
   rcases db.2 with⟨⟨c,rfl,_⟩,rfl⟩|⟨g,hW,cur,rfl,zC,ah,hle,h9,dL,lp⟩
   ·have hx:xs=[]:=List.eq_nil_of_length_eq_zero (by simpa using db.1)
    subst hx
    cases c with
    |none=>exact fin (World.ownsRow_nil w 0 e n) rfl
    |some c=>
     have c2:=run_append_grow (P:=P) w t ty e i z aK hi aS c 0 0 [] (by simp) (by simp) a m cap news (by rw[iB];exact ar) e1 (by omega) (by simp only[maxLen]at sl;omega) (growslice_fits (by omega) (by rw[jr];exact zB))
     have hv:=World.ownsRow_made (e:=e) (size:=n) w.drew (news.toArray++Builtin.zeroCells z.cells (grownCap w (0+m) 0 e-(0+m))) (grownCap w (0+m) 0 e) (base:=0) (Nat.zero_le _) (grownCap_le_maxLen w (0+m) 0 e sl) (by
      have:=grownCap_ge w (0+m) 0 e
      simp only[Array.size_append,List.size_toArray,size_zeroCells,fe,ar,←Nat.add_mul]
      congr 1
      omega)
     refine⟨_,_,c2,?_,⟨rfl,rfl,rfl,by simp,fun k aj _=>Go.RowKit.Below.heap_alloc w.drew _ k aj⟩,fun k aj=>?_⟩
     ·have h4:=grownCap_ge w (0+m) 0 e
      refine⟨by simp[ar],.inr ⟨w.heap.size,grownCap w (0+m) 0 e,_,rfl,by omega,heap_alloc_new w.drew _,h4,grownCap_le_maxLen w (0+m) 0 e sl,?_,?_⟩⟩
      ·simp only[Array.size_append,List.size_toArray,size_zeroCells,fe,ar,←Nat.add_mul,List.length_nil,Nat.zero_add]at h4⊢
       congr 1
       omega
      ·simp only[Array.toList_append,List.nil_append,Nat.zero_add]
       rw[←ar];exact List.take_left
     ·simp only[b9]at aj
      split at aj
      ·cases aj
      ·simp at aj;exact .inr (by omega)
   ·exact fin ⟨db.1,.inr ⟨g,hW,cur,rfl,Nat.zero_le _,ah,hle,h9,dL,lp⟩⟩ (by simp[Value.ownBlock,b9,Nat.ne_of_gt zC])
def pX(P:Program)(t:TypeId):Option (Nat × Nat × Nat):=
 match P.underlying t with
 |some (.slice e)=>match P.info? e with
  |some i=>match i.zero with
   |some z=>if z.cells.size=i.size∧0<i.size then some (e,i.size,i.bytes)else none
   |none=>none
  |none=>none
 |_=>none
theorem pK{t e n bytes:Nat}(h:pX P t=some (e,n,bytes)): ∃i z,P.underlying t=some (.slice e)∧P.info? e=some i∧i.zero=some z∧i.size=n∧i.bytes=bytes∧z.cells.size=n∧0<n:=by
 unfold pX at h
 split at h
 ·rename_i aB hu
  split at h
  ·rename_i i hi
   split at h
   ·rename_i z aS
    split at h
    ·rename_i hc
     simp only[Option.some.injEq,Prod.mk.injEq]at h;obtain⟨rfl,rfl,rfl⟩:=h;exact⟨i,z,hu,hi,aS,rfl,rfl,hc.1,hc.2⟩
    ·cases h
   ·cases h
  ·cases h
 ·cases h
theorem zD{w:World}{ro:Nat→Prop}{n:Nat}{es:List (List bb)}(hn: ∀e∈es,e.length=n){f:Nat→Value}(hf: ∀j x,es.flatten[j]? =some x→cZ w ro x (f j)):
 ((List.range (es.length*n)).map f).length=es.length*n∧(∀u∈(List.range (es.length*n)).map f,u.oneCell'=true)∧∀j x,es.flatten[j]? =some x→cZ w ro x (((List.range (es.length*n)).map f).getD j undef):=by
 refine⟨by simp,fun u hu=>?_,fun j x af=>?_⟩
 ·rw[List.mem_map]at hu
  obtain⟨j,af,rfl⟩:=hu;rw[List.mem_range]at af
  have ar:=j0 hn
  exact(hf j (es.flatten[j]'(by omega)) (by simp)).one
 ·have ar:=j0 hn
  have cU:=(List.getElem?_eq_some_iff.1 af).1
  have:j<es.length*n:=by omega
  simpa[List.getD,this]using hf j x af
theorem wz{w:World}{ro:Nat→Prop}{n:Nat}{es fs:List (List bb)}(hn: ∀e∈es,e.length=n){xs ys:List Value}(hx:xs.length=es.length*n)(aa: ∀j x,es.flatten[j]? =some x→cZ w ro x (xs.getD j undef))
 (ae: ∀j x,fs.flatten[j]? =some x→cZ w ro x (ys.getD j undef)): ∀j x,(es++fs).flatten[j]? =some x→cZ w ro x ((xs++ys).getD j undef):=by
 intro j x af
 rw[List.flatten_append]at af
 have ar:=j0 hn
 by_cases h:j<es.flatten.length
 ·rw[List.getElem?_append_left h]at af
  have:=aa j x af
  rw[List.getD,List.getElem?_append_left (by omega)]
  exact this
 ·rw[List.getElem?_append_right (by omega)]at af
  have:=ae _ x af
  rw[List.getD,List.getElem?_append_right (by omega),hx,←ar]
  exact this
theorem zdx(x y:Operand)(t:TypeId)(ao:o.op= .call {callee:=.builtin .append,args:=#[x,y],argTypes:=#[t,t]}){e n bytes:Nat}(aK:pX P t=some (e,n,bytes))
 {id:Nat}(hx:aM G s x= .aR id){es:List (List bb)}(bh:aG s.heap id=some (.row false e n es))(ad:s.base≤id)(bR:id<s.next)
 {fs:List (List bb)}(ay:fy s.heap n (aM G s y)=some fs)(bY:es.length+fs.length≤maxLen∧(es.length+fs.length)*bytes≤140737488355328):
 dS P G o s (aU.put ⟨ef id s.c0,(id,.row false e n (es++fs))::dz id s.heap,s.next,s.base⟩ o.dst (.aR id)):=by
 intro E a w ⟨β,ro,ag⟩ K Q hK
 obtain⟨i,z,hu,hi,aS,iB,jr,fe,hn⟩:=pK aK
 obtain⟨b,cap,hc,ma,oL,f,hZ,oM⟩:=wy ag.heap (ag.eval y) ay
 have dr:=ag.heap.dh id _ bh
 cases dr with
 |row _ _ _ xs db cb e1=>
  have lv:a.eval x=β id:=by
   have h:=ag.eval x
   rw[hx]at h;generalize a.eval x=c at h
   cases h with
   |aR _ _ _ ak=>exact ak _ _ _ _ bh
  obtain⟨nF,oN,q5⟩:=zD ma oM
  obtain⟨bp,w',cy,ku,c2,bm⟩:=Dj (P:=P) t o.type e hu hi aS iB jr fe hn db (b:=b) (m:=fs.length) (cap:=cap) nF (fun ad=>by rw[oL ad];rfl)
   (fun bf ba j u af=>by
    have cU:=(List.getElem?_eq_some_iff.1 af).1
    rw[nF]at cU
    have aa:=hZ bf ba j cU
    simp[cU]at af
    rw[aa,af]) oN bY.1 bY.2
  unfold Oper.wp;simp only[execOp,ao,resolve,invoke,builtin,Sem.run_bind,Sem.run_pure,Result.andThen_ok,List.map_toArray,List.map_cons,List.map_nil,lv,hc,cy]
  have jm: ∀k,k<w.heap.size→b9 (β id)≠some k→w'.heap[k]? =w.heap[k]? :=fun k aj cb=>c2.block k aj (fun e=>cb e.symm)
  have cl: ∀k,ro k→w'.heap[k]? =w.heap[k]? :=fun k aj=>jm k (ag.heap.lt k aj) fun bm=>ag.heap.fk k aj ⟨id,_,bh,rfl,bm⟩
  refine hK _ _ ⟨gQ β id bp,ro,df.put (ag.renew (w':=w') id ad bR bh (.row false e n (es++fs)) bp c2.os c2.tape c2.output c2.size jm bm rfl ?_) o.dst _ _ ?_⟩
  ·refine .row e n _ _ (by rw[dT,List.length_append];exact ku) (fun aB iM=>?_) (fun j x af=>?_)
   ·rw[List.mem_append]at iM
    rcases iM with h|h
    ·exact cb _ h
    ·exact ma _ h
   ·exact(wz cb db.1 e1 q5 j x af).keep cl fun _ h=>h
  ·exact .aR _ _ bR fun z bI cT dR _=>(dT _ _ _).symm
theorem zdy(x y:Operand)(t:TypeId)(ao:o.op= .call {callee:=.builtin .append,args:=#[x,y],argTypes:=#[t,t]}){e n bytes:Nat}(aK:pX P t=some (e,n,bytes))
 (hx:aM G s x= .aw (.v (.slice none 0 0)))(ad:s.base≤s.next)
 {fs:List (List bb)}(ay:fy s.heap n (aM G s y)=some fs)(bY:fs.length≤maxLen∧fs.length*bytes≤140737488355328):
 dS P G o s ({s with heap:=(s.next,.row false e n fs)::s.heap,next:=s.next+1}.put o.dst (.aR s.next)):=by
 intro E a w ⟨β,ro,ag⟩ K Q hK
 obtain⟨i,z,hu,hi,aS,iB,jr,fe,hn⟩:=pK aK
 obtain⟨b,cap,hc,ma,oL,f,hZ,oM⟩:=wy ag.heap (ag.eval y) ay
 obtain⟨nF,oN,q5⟩:=zD ma oM
 obtain⟨bp,w',cy,ku,c2,bm⟩:=Dj (P:=P) (w:=w) t o.type e hu hi aS iB jr fe hn (v:=.slice none 0 0) (len:=0) (xs:=[]) ⟨by simp,.inl ⟨⟨none,rfl,fun _ h=>(by cases h)⟩,rfl⟩⟩ (b:=b) (m:=fs.length) (cap:=cap) nF (fun ad=>by rw[oL ad];rfl)
  (fun bf ba j u af=>by
   have cU:=(List.getElem?_eq_some_iff.1 af).1
   rw[nF]at cU
   have aa:=hZ bf ba j cU
   simp[cU]at af
   rw[aa,af]) oN (by omega) (by rw[Nat.zero_add];exact bY.2)
 unfold Oper.wp
 simp only[execOp,ao,resolve,invoke,builtin,Sem.run_bind,Sem.run_pure,Result.andThen_ok,List.map_toArray,List.map_cons,List.map_nil,ag.ee hx,hc,cy]
 have jl:aG s.heap s.next=none:=by
  cases ah:aG s.heap s.next with
  |none=>rfl
  |some p=>have:=ag.trans.new _ _ ah;omega
 have hw: ∀b,b<w.heap.size→w'.heap[b]? =w.heap[b]? :=fun b ad=>c2.block b ad (by simp[b9])
 have cl: ∀b,ro b→w'.heap[b]? =w.heap[b]? :=fun b ad=>hw b (ag.heap.lt b ad)
 refine hK _ _ ⟨gQ β s.next bp,ro,df.put (ag.new (w':=w') s.next jl ad (Nat.le_refl _) (.row false e n fs) bp c2.os c2.tape c2.output c2.size hw (fun b ad=>?_) rfl ?_) o.dst _ _ ?_⟩
 ·rcases bm b ad with h|h
  ·simp[b9]at h
  ·exact h
 ·refine .row e n _ _ (by rw[dT];simpa using ku) ma (fun j x af=>(q5 j x af).keep cl fun _ h=>h)
 ·exact .aR _ _ (Nat.lt_succ_self _) fun z bI cT dR _=>(dT _ _ _).symm
theorem RQ{cap len:Nat}{isS:Bool}{lo hi mx:Option Value}{l h m:Nat}(hm:(mx=none∧m=cap)∨∃k,mx=some (.int k (m:Int)))(bk:(hi=none∧mx=none∧h=len)∨∃k,hi=some (.int k (h:Int)))
 (ar:(lo=none∧l=0)∨∃k,lo=some (.int k (l:Int)))(aa:l≤h)(ae:h≤m)(au:m≤cap)(w:World):(Instr.sliceBounds isS len cap lo hi mx).run P w= .ok (l,h,m) w:=by
 rcases hm with⟨rfl,rfl⟩|⟨zjE,rfl⟩<;>rcases bk with⟨rfl,sm,rfl⟩|⟨zjF,rfl⟩<;>rcases ar with⟨rfl,rfl⟩|⟨RR,rfl⟩
 all_goals first
  |(cases sm;done)
  |simp[Instr.sliceBounds,Instr.sliceBound,asIntOf,aa,ae,au]
theorem Dl (t : TypeId) (x : Operand) (lo hi : Option Operand) (ao : o.op = .slice t x lo hi none) (aK : P.underlying t = some .string) {b : ByteArray} (hx : aM G s x = .aw (.v (.string b))) {l h : Nat}
    (ar : (lo = none ∧ l = 0) ∨ ∃ y k, lo = some y ∧ aM G s y = .aw (.v (.int k (l : Int)))) (bk : (hi = none ∧ h = b.size) ∨ ∃ y k, hi = some y ∧ aM G s y = .aw (.v (.int k (h : Int)))) (aa : l ≤ h) (ae : h ≤ b.size) :
    cX P G o s (.aw (.v (.string (b.extract l h)))) :=
  fun _ a w β ro ag => by
    have ad := RQ (P := P) (cap := b.size) (len := b.size) (isS := false) (lo := lo.map a.eval) (hi := hi.map a.eval) (mx := none) (l := l) (h := h) (m := b.size) (.inl ⟨rfl, rfl⟩)
      (by rcases bk with ⟨rfl, rfl⟩ | ⟨y, k, rfl, ay⟩
          · exact .inl ⟨rfl, rfl, rfl⟩
          · exact .inr ⟨k, by simp [ag.ee ay]⟩)
      (by rcases ar with ⟨rfl, rfl⟩ | ⟨y, k, rfl, ay⟩
          · exact .inl ⟨rfl, rfl⟩
          · exact .inr ⟨k, by simp [ag.ee ay]⟩) aa ae (Nat.le_refl _) w
    exact ⟨_, by simp [execOp, ao, ag.ee hx, Instr.sliceAt, run_underlying aK, Instr.slice, ad], .fG rfl⟩
theorem RS(src dst:TypeId)(x:Operand)(ao:o.op= .convert src dst x)(ai:(P.underlying src).isSome=true){bu:IntKind}(hd:P.underlying dst=some (.int bu)){k:IntKind}{n:Int}(hx:aM G s x= .aw (.v (.int k n))):
 cX P G o s (.aw (.v (.int bu (bu.wrap n)))):=
 fun _ a w β ro ag=>by
  cases hu:P.underlying src with
  |none=>simp[hu]at ai
  |some d=>exact⟨_,by simp[execOp,ao,ag.ee hx,convert,run_underlying hu,run_underlying hd,Conv.intToInt],.fG rfl⟩
theorem RT(x y:Operand)(ts:Array TypeId)(ao:o.op= .call {callee:=.builtin .min,args:=#[x,y],argTypes:=ts}){k:IntKind}{m n:Int}(hx:aM G s x= .aw (.v (.int k m)))(ay:aM G s y= .aw (.v (.int k n))):
 cX P G o s (.aw (.v (.int k (if n<m then n else m)))):=
 fun _ a w β ro ag=>⟨.int k (if n<m then n else m),by simp[execOp,ao,resolve,invoke,builtin,ag.ee hx,ag.ee ay,run_min_int2],.fG rfl⟩
theorem RU(x y:Operand)(ts:Array TypeId)(ao:o.op= .call {callee:=.builtin .max,args:=#[x,y],argTypes:=ts}){k:IntKind}{m n:Int}(hx:aM G s x= .aw (.v (.int k m)))(ay:aM G s y= .aw (.v (.int k n))):
 cX P G o s (.aw (.v (.int k (if n>m then n else m)))):=
 fun _ a w β ro ag=>⟨.int k (if n>m then n else m),by simp[execOp,ao,resolve,invoke,builtin,ag.ee hx,ag.ee ay,run_max_int2],.fG rfl⟩
theorem zdz(cF ty:TypeId)(x y:Operand)(ao:o.op= .binOp .add cF x y ty){u v:ByteArray}(hx:aM G s x= .aw (.v (.string u)))(ay:aM G s y= .aw (.v (.string v)))(bY:u.size+v.size≤9223372036854775807):
 cX P G o s (.aw (.v (.string (u++v)))):=
 oG .add cF ty x y ao hx ay (by
  simp only[j1]
  rw[if_neg (by simp only[IntKind.max_i64];omega)])
end
end Go.aO
namespace Go.aO
open Go
def pY(s:aU)(o:Oper)(v:aF):Option aU:=some (s.put o.dst v)
def isStr(P:Program)(t:TypeId):Bool:=
 match P.underlying t with
 |some .string=>true
 |_=>false
def Dm(P:Program)(t:TypeId):Bool:=
 match P.underlying t with
 |some .bool=>true
 |_=>false
theorem ui{P:Program}{t:TypeId}(h:isStr P t=true):P.underlying t=some .string:=by
 unfold isStr at h
 split at h
 ·assumption
 ·cases h
theorem Dn{P:Program}{t:TypeId}(h:Dm P t=true):P.underlying t=some .bool:=by
 unfold Dm at h
 split at h
 ·assumption
 ·cases h
def KC(P:Program)(G:bd)(b:Builtin)(xs:List Operand)(ts:List TypeId)(s:aU):Option aF:=
 match b,xs,ts with
 | .len,[x],[t]=>match kU s.heap (aM G s x)with
  |some m=>if isSlice P t then some (.aw (.v (.int .i64 (m:Int))))else none
  |none=>match aM G s x with
   | .aw (.v (.string b))=>if isStr P t then some (.aw (.v (.int .i64 (b.size:Int))))else none
   |_=>match Df P t with
    |some n=>some (.aw (.v (.int .i64 (n:Int))))
    |none=>none
 | .min,[x,y],_=>match aM G s x,aM G s y with
  | .aw (.v (.int k m)),.aw (.v (.int bu n))=>if k=bu then some (.aw (.v (.int k (if n<m then n else m))))else none
  |_,_=>none
 | .max,[x,y],_=>match aM G s x,aM G s y with
  | .aw (.v (.int k m)),.aw (.v (.int bu n))=>if k=bu then some (.aw (.v (.int k (if n>m then n else m))))else none
  |_,_=>none
 |_,_,_=>none
def q6(P:Program)(G:bd)(o:Oper)(s:aU):Option aF:=
 match o.op with
 | .move x=>some (aM G s x)
 | .assign x=>some (aM G s x)
 | .load t x=>match fr s.heap (aM G s x)with
  |some cs=>match l3 P t with
   |some n=>if n≤cs.length∧0<n then some (.agg (cs.take n))else none
   |none=>if scalar P t then match cs with
    |y::_=>some y
    |[]=>none
    else none
  |none=>none
 | .fieldAddr t x f=>match sj P t f,jJ s.heap (aM G s x)with
  |some k,true=>some (qQ k (aM G s x))
  |_,_=>none
 | .nilCheck x=>match jJ s.heap (aM G s x)with
  |true=>some (aM G s x)
  |false=>none
 | .field t x f=>match aM G s x,wv P t f with
  | .agg cs,some (off,none)=>match cs[off]? with
   |some v=>some v
   |none=>none
  | .agg cs,some (off,some n)=>if off+n≤cs.length then some (.agg ((cs.drop off).take n))else none
  |_,_=>none
 | .indexAddr t x i=>match aM G s i with
  | .aw (.v (.int _ (.ofNat j)))=>match j3 P t with
   |some n=>match l8 s.heap n j (aM G s x)with
    |some p=>some p
    |none=>none
   |none=>match ug P t,fr s.heap (aM G s x)with
    |some (len,n),some _=>if j<len then match iQ (j*n) (aM G s x)with
     |some p=>some p
     |none=>none
     else none
    |_,_=>none
  |_=>none
 | .index t x i=>match aM G s i,aM G s x with
  | .aw (.v (.int _ (.ofNat j))),.aw (.v (.string b))=>if isStr P t then match b.data.toList[j]? with
   |some u=>some (.aw (.v (.int .u8 (u.toNat:Int))))
   |none=>none
   else none
  |_,_=>none
 | .binOp op cF x y _=>match aM G s x,aM G s y with
  | .aw (.v (.bool u)),.aw (.v (.bool v))=>if Dm P cF then match op with
   | .eql=>some (.aw (.v (.bool (u==v))))
   | .neq=>some (.aw (.v (.bool (!(u==v)))))
   |_=>none
   else none
  | .aw (.v u),.aw (.v v)=>match j1 op u v with
   |some c=>some (.aw (.v c))
   |none=>none
  | .agg cs,.agg ds=>match mM P cF,hy cs,hy ds with
   |some fs,some xs,some ys=>match zn P 0 fs xs ys with
    |some b=>match op with
     | .eql=>some (.aw (.v (.bool b)))
     | .neq=>some (.aw (.v (.bool (!b))))
     |_=>none
    |none=>none
   |_,_,_=>none
  |_,_=>none
 | .unOp op _ x=>match op,aM G s x with
  | .not,.aw (.v (.bool b))=>some (.aw (.v (.bool (!b))))
  | .neg,.aw (.v (.int k n))=>some (.aw (.v (.int k (k.wrap (0-n)))))
  |_,_=>none
 | .pick c x y=>match aM G s c with
  | .aw (.v (.bool true))=>some (aM G s x)
  | .aw (.v (.bool false))=>some (aM G s y)
  |_=>none
 | .extract x i=>match aM G s x with
  | .tuple cs=>match cs[i]? with
   |some v=>some v
   |none=>none
  |_=>none
 | .build t parts=>match places P t,zeroCells P t with
  |some pl,some zs=>if zs.all Value.oneCell'∧(parts.toList.map fun p=>(p.1,aM G s p.2)).all (fun p=>(c1 p.2).all (eF s.heap))then
   match j4 pl (zs.map fun z=>.aw (.v z)) (parts.toList.map fun p=>(p.1,aM G s p.2))with
   |some ds=>some (.agg ds)
   |none=>none
   else none
  |_,_=>none
 | .call c=>match c.callee with
  | .builtin b=>KC P G b c.args.toList c.argTypes.toList s
  |_=>none
 | .convert src dst x=>match aM G s x,P.underlying dst with
  | .aw (.v (.int _ n)),some (.int bu)=>if(P.underlying src).isSome then some (.aw (.v (.int bu (bu.wrap n))))else none
  |_,_=>none
 |_=>none
def KD(P:Program)(G:bd)(o:Oper)(s:aU):Option aU:=
 match q6 P G o s with
 |some v=>pY s o v
 |none=>match o.op with
  | .store t p x=>match aM G s p with
   | .ptr id off=>match aG s.heap id with
    |some (.box bt cs)=>if(c1 (aM G s x)).all (eF s.heap)∧(P.info? t).map (·.size)=some (c1 (aM G s x)).length∧off+(c1 (aM G s x)).length≤cs.length
     then pY {s with heap:=eQ s.heap id (.box bt (ej cs off (c1 (aM G s x))))} o .top else none
    |_=>none
   | .c6 id i off=>match aG s.heap id with
    |some (.row false bt n es)=>match es[i]?,iR (c1 (aM G s x))with
     |some e,some vs=>if(P.info? t).map (·.size)=some vs.length∧off+vs.length≤n then pY {s with heap:=eQ s.heap id (.row false bt n (es.set i (ej e off vs)))} o .top else none
     |_,_=>none
    |_=>none
   |_=>none
  | .alloc t=>match zeroCells P t with
   |some zs=>if zs.all Value.oneCell'∧s.base≤s.next then pY {s with heap:=(s.next,.box t (zs.map fun z=>.aw (.v z)))::s.heap,next:=s.next+1} o (.ptr s.next 0)else none
   |none=>none
  | .box t x=>if(c1 (aM G s x)).all (eF s.heap)∧s.base≤s.next then pY {s with heap:=(s.next,.box t (c1 (aM G s x)))::s.heap,next:=s.next+1} o (.ptr s.next 0)else none
  |_=>none
section
variable {P:Program} {G:bd} {o:Oper} {s bC:aU} {v:aF}
theorem zdA{b:Builtin}{args:Array Operand}{ts:Array TypeId}(ao:o.op= .call {callee:=.builtin b,args,argTypes:=ts})(h:KC P G b args.toList ts.toList s=some v):cX P G o s v:=by
 unfold KC at h
 split at h
 ·rename_i x t ba zdB
  have aE:args= #[x]:=by apply Array.ext';simpa using ba
  have bo:ts= #[t]:=by apply Array.ext';simpa using zdB
  subst aE bo
  split at h
  ·rename_i m hm
   split at h
   ·rename_i aK
    simp only[Option.some.injEq]at h;subst h;exact Kv x t ao aK hm
   ·cases h
  ·split at h
   ·rename_i b hx
    split at h
    ·rename_i aK
     simp only[Option.some.injEq]at h;subst h;exact Kw x t ao (ui aK) hx
    ·cases h
   ·split at h
    ·rename_i n hn
     simp only[Option.some.injEq]at h;subst h;exact RD x t ao hn
    ·cases h
 ·rename_i x y ba
  have aE:args= #[x,y]:=by apply Array.ext';simpa using ba
  subst aE
  split at h
  ·rename_i k m bu n hx ay
   split at h
   ·rename_i aj
    subst aj;simp only[Option.some.injEq]at h;subst h;exact RT x y ts ao hx ay
   ·cases h
  ·cases h
 ·rename_i x y ba
  have aE:args= #[x,y]:=by apply Array.ext';simpa using ba
  subst aE
  split at h
  ·rename_i k m bu n hx ay
   split at h
   ·rename_i aj
    subst aj;simp only[Option.some.injEq]at h;subst h;exact RU x y ts ao hx ay
   ·cases h
  ·cases h
 ·cases h
theorem KE(h:q6 P G o s=some v):cX P G o s v:=by
 unfold q6 at h
 split at h
 ·rename_i x ao
  simp only[Option.some.injEq]at h;subst h;exact QV x ao
 ·rename_i x ao
  simp only[Option.some.injEq]at h;subst h;exact QW x ao
 ·rename_i t x ao
  split at h
  ·rename_i cs hc
   split at h
   ·rename_i n hn
    split at h
    ·rename_i ar
     simp only[Option.some.injEq]at h;subst h;exact QX t x ao hn hc ar.1 ar.2
    ·cases h
   ·split at h
    ·rename_i ai
     split at h
     ·simp only[Option.some.injEq]at h;subst h;exact Kb t x ao ai hc
     ·cases h
    ·cases h
  ·cases h
 ·rename_i t x f ao
  split at h
  ·rename_i k aj hc
   simp only[Option.some.injEq]at h;subst h;exact Q0 t x f ao aj hc
  ·cases h
 ·rename_i x ao
  split at h
  ·rename_i hc
   simp only[Option.some.injEq]at h;subst h;exact Q1 x ao hc
  ·cases h
 ·rename_i t x f ao
  split at h
  ·rename_i cs off hx aK
   split at h
   ·rename_i v ax
    simp only[Option.some.injEq]at h;subst h;exact RH t x f ao aK hx ax
   ·cases h
  ·rename_i cs off n hx aK
   split at h
   ·rename_i hn
    simp only[Option.some.injEq]at h;subst h;exact RI t x f ao aK hx hn
   ·cases h
  ·cases h
 ·rename_i t x i ao
  split at h
  ·rename_i k j hi
   split at h
   ·rename_i n hn
    split at h
    ·rename_i p ak
     simp only[Option.some.injEq]at h;subst h;exact RF t x i ao hn hi ak
    ·cases h
   ·split at h
    ·rename_i len n cs aK dL
     split at h
     ·rename_i af
      split at h
      ·rename_i p ak
       simp only[Option.some.injEq]at h;subst h;exact Kx t x i ao aK hi af dL ak
      ·cases h
     ·cases h
    ·cases h
  ·cases h
 ·rename_i t x i ao
  split at h
  ·rename_i k j b hi hx
   split at h
   ·rename_i aK
    split at h
    ·rename_i u hu
     simp only[Option.some.injEq]at h;subst h;exact RG t x i ao (ui aK) hi hx hu
    ·cases h
   ·cases h
  ·cases h
 ·rename_i op cF x y ty ao
  split at h
  ·rename_i u v hx ay
   split at h
   ·rename_i aK
    split at h
    ·simp only[Option.some.injEq]at h;subst h;exact Ri cF ty x y ao (Dn aK) hx ay
    ·simp only[Option.some.injEq]at h;subst h;exact Rj cF ty x y ao (Dn aK) hx ay
    ·cases h
   ·cases h
  ·rename_i u v _ hx ay
   split at h
   ·rename_i c hc
    simp only[Option.some.injEq]at h;subst h;exact oG _ cF ty x y ao hx ay hc
   ·cases h
  ·rename_i cs ds hx ay
   split at h
   ·rename_i fs xs ys hf nA l5
    split at h
    ·rename_i b ad
     split at h
     ·simp only[Option.some.injEq]at h;subst h;exact Rp cF ty x y ao hf hx ay nA l5 ad
     ·simp only[Option.some.injEq]at h;subst h;exact Rq cF ty x y ao hf hx ay nA l5 ad
     ·cases h
    ·cases h
   ·cases h
  ·cases h
 ·rename_i op t x ao
  split at h
  ·rename_i b hx
   simp only[Option.some.injEq]at h;subst h;exact Rr t x ao hx
  ·rename_i k n hx
   simp only[Option.some.injEq]at h;subst h;exact Rs t x ao hx
  ·cases h
 ·rename_i c x y ao
  split at h
  ·rename_i hc
   simp only[Option.some.injEq]at h;subst h;exact zp c x y ao hc rfl
  ·rename_i hc
   simp only[Option.some.injEq]at h;subst h;exact zp c x y ao hc rfl
  ·cases h
 ·rename_i x i ao
  split at h
  ·rename_i cs hx
   split at h
   ·rename_i v ax
    simp only[Option.some.injEq]at h;subst h;exact Rt x i ao hx ax
   ·cases h
  ·cases h
 ·rename_i t parts ao
  split at h
  ·rename_i pl zs ak aS
   split at h
   ·rename_i hc
    split at h
    ·rename_i ds hf
     simp only[Option.some.injEq]at h;subst h;exact RM t parts ao ak aS hc.1 rfl hc.2 hf
    ·cases h
   ·cases h
  ·cases h
 ·rename_i c ao
  split at h
  ·rename_i b ad
   obtain⟨callee,args,ts⟩:=c;simp only at ad h;subst ad;exact zdA ao h
  ·cases h
 ·rename_i src dst x ao
  split at h
  ·rename_i k n bu hx hd
   split at h
   ·rename_i ai
    simp only[Option.some.injEq]at h;subst h;exact RS src dst x ao ai hd hx
   ·cases h
  ·cases h
 ·cases h
theorem zdC(h:KD P G o s=some bC):dS P G o s bC:=by
 unfold KD at h
 split at h
 ·rename_i v ax
  simp only[pY,Option.some.injEq]at h;subst h;exact(KE ax).step
 ·split at h
  ·rename_i t p x ao
   split at h
   ·rename_i id off ak
    split at h
    ·rename_i bt cs ah
     split at h
     ·rename_i hc
      simp only[pY,Option.some.injEq]at h;subst h;exact Ra t p x ao ak ah rfl hc.1 hc.2.1 hc.2.2
     ·cases h
    ·cases h
   ·rename_i id i off ak
    split at h
    ·rename_i bt n es ah
     split at h
     ·rename_i e vs he ax
      split at h
      ·rename_i hc
       simp only[pY,Option.some.injEq]at h;subst h;exact Rc t p x ao ak ah he ax hc.1 hc.2
      ·cases h
     ·cases h
    ·cases h
   ·cases h
  ·rename_i t ao
   split at h
   ·rename_i zs aS
    split at h
    ·rename_i hc
     simp only[pY,Option.some.injEq]at h;subst h;exact Q8 t ao hc.2 aS hc.1
    ·cases h
   ·cases h
  ·rename_i t x ao
   split at h
   ·rename_i hc
    simp only[pY,Option.some.injEq]at h;subst h;exact Q6 t x ao hc.2 hc.1
   ·cases h
  ·cases h
def dO(ops:Array Oper)(s:aU)(o:Oper):Option Bool:=
 match o.guard with
 |none=>some true
 |some (j,b)=>match l6 ops j with
  |some d=>match s.c0[d]? with
   |some (.aw (.v (.bool c)))=>some (match b,c with
    |true,true=>true
    |false,false=>true
    |_,_=>false)
   |some (.tuple _)=>some false
   |_=>none
  |none=>none
def wA(P:Program)(G:bd)(ops:Array Oper):Nat→List Oper→aU→Option aU
 |0,_,s=>some s
 |n+1,o::r,s=>match dO ops s o with
  |some true=>match KD P G o s with
   |some bC=>wA P G ops n r bC
   |none=>none
  |some false=>wA P G ops n r (s.put o.dst (.tuple []))
  |none=>none
 |_+1,[],_=>none
variable {Q:Exit→aU→Prop}
theorem cE.step{ops:Array Oper}{rest:List Oper}(ah:dO ops s o=some true)(h:dS P G o s bC)(k:cE P G ops Q rest bC):cE P G ops Q (o::rest) s:=by
 unfold dO at ah
 split at ah
 ·rename_i hn
  exact cE.cons hn h k
 ·rename_i j b hn
  split at ah
  ·rename_i d hd
   split at ah
   ·rename_i c ai
    simp only[Option.some.injEq]at ah
    have zE:b=c:=by cases b<;>cases c<;>simp_all
    subst zE;exact cE.guarded hn hd ai h k
   ·cases ah
   ·cases ah
  ·cases ah
theorem cE.pass{ops:Array Oper}{rest:List Oper}(ah:dO ops s o=some false)(k:cE P G ops Q rest (s.put o.dst (.tuple []))):cE P G ops Q (o::rest) s:=by
 unfold dO at ah
 split at ah
 ·cases ah
 ·rename_i j b hn
  split at ah
  ·rename_i d hd
   split at ah
   ·rename_i c ai
    simp only[Option.some.injEq]at ah
    have zE:c= !b:=by cases b<;>cases c<;>simp_all
    subst zE;exact cE.zdb hn hd ai k
   ·rename_i cs ai
    exact cE.zdc hn hd ai k
   ·cases ah
  ·cases ah
theorem cE.run{ops:Array Oper}: ∀(n:Nat) {l:List Oper} {s bC:aU},wA P G ops n l s=some bC→cE P G ops Q (l.drop n) bC→cE P G ops Q l s
 |0,l,s,bC,h,k=>by
  simp[wA]at h;subst h;exact k
 |n+1,[],s,bC,h,k=>by simp[wA]at h
 |n+1,o::r,s,bC,h,k=>by
  simp only[wA]at h
  split at h
  ·rename_i ah
   split at h
   ·rename_i s1 aa
    exact cE.step ah (zdC aa) (cE.run n h k)
   ·cases h
  ·rename_i ah
   exact cE.pass ah (cE.run n h k)
  ·cases h
end
end Go.aO
namespace Go.aO
open Go
abbrev iS(n:Int):aF:=.aw (.v (.int .i64 n))
abbrev tq(b:Bool):aF:=.aw (.v (.bool b))
abbrev vs(s:ByteArray):aF:=.aw (.v (.string s))
abbrev zdD(l:List bb):List aF:=l.map .aw
def mR:Nat→Nat→List (Nat × aF)→List aF
 |_,0,_=>[]
 |i,k+1,[]=>.top::mR (i+1) k []
 |i,k+1,(j,v)::r=>if i=j then v::mR (i+1) k r else .top::mR (i+1) k ((j,v)::r)
theorem rS(n:Int)(aa: -9223372036854775808≤n)(ae:n≤9223372036854775807):IntKind.i64.wrap n=n:=by
 rw[IntKind.wrap_i64];omega
def mb(σ:Heap):Heap→Heap
 |[]=>[]
 |(k,.box t cs)::r=>(k,.box t (kr σ cs))::mb σ r
 |(k,.row z t n es)::r=>(k,.row z t n es)::mb σ r
 |(k,.bT bU)::r=>(k,.bT bU)::mb σ r
def kv(σ:Heap):ei→ei
 | .box t cs=>.box t (kr σ cs)
 | .row z t n es=>.row z t n es
 | .bT bU=>.bT bU
theorem pZ(σ:Heap): ∀(h:Heap) (k:Nat),aG (mb σ h) k=(aG h k).map (kv σ)
 |[],k=>by simp[mb,aG]
 |(j,.box t cs)::r,k=>by
  by_cases af:j=k
  ·simp[mb,aG,af,kv]
  ·simp[mb,aG,af,pZ σ r k]
 |(j,.row z t n es)::r,k=>by
  by_cases af:j=k
  ·simp[mb,aG,af,kv]
  ·simp[mb,aG,af,pZ σ r k]
 |(j,.bT bU)::r,k=>by
  by_cases af:j=k
  ·simp[mb,aG,af,kv]
  ·simp[mb,aG,af,pZ σ r k]
theorem h6.KF{w:World}{ro:Nat→Prop}{t:TypeId}{n:Nat}{v:Value}{es:List (List bb)}{xs:List Value}(h:h6 w t n v es.length xs)(hn: ∀e∈es,e.length=n)(hc: ∀j x,es.flatten[j]? =some x→cZ w ro x (xs.getD j undef))
 (cl: ∀b,b9 v=some b→ro b):cZ w ro (.aR n es) v:=by
 rcases h.2 with⟨⟨b,ax,_⟩,aS⟩|⟨g,cap,cur,ax,ak,ah,hle,h9,dL,lp⟩
 ·subst ax
  have:es=[]:=List.eq_nil_of_length_eq_zero aS
  subst this;exact .aR n [] b 0 (fun _=>undef) (by simp) (Nat.zero_le _) (by simp) (by simp) (by simp)
 ·subst ax
  refine .aR n es _ cap (fun j=>xs.getD j undef) hle h9 hn (fun _=>⟨⟨g,0,none⟩,rfl,fun j af=>⟨cl g (by simp[b9,Nat.ne_of_gt ak]),?_⟩⟩) hc
  rw[addLit,Nat.zero_add,cell_of_row w g j cur t (0,0) ah]
  have hx:xs[j]? =cur[j]? :=by rw[←lp,List.getElem?_take,if_pos af];simp
  have jI:j<xs.length:=by rw[h.1];exact af
  rw[←hx];simp[List.getD,List.getElem?_eq_getElem jI]
def mS(s:aU)(id:Nat):aU:=
 match aG s.heap id with
 |some (.row false t n es)=>⟨kr [(id,.row true t n es)] s.c0,mb [(id,.row true t n es)] (gu s.heap id),s.next,s.base⟩
 |_=>s
theorem cu.mS(s:aU)(id:Nat):cu s (mS s id):=by
 unfold Go.aO.mS
 split
 ·rename_i t n es bh
  intro E G a w ⟨β,ro,h⟩
  have dr:=h.heap.dh id _ bh
  cases dr with
  |row _ _ _ xs db hn hc=>

   have Dp:cZ w (fun b=>ro b∨b9 (β id)=some b) (.aR n es) (β id):=db.KF hn (fun j x af=>(hc j x af).keep (fun _ _=>rfl) fun _ h=>.inl h) fun b ad=>.inr ad
   have gC: ∀k o,aG (gu s.heap id) k=some o→aG s.heap k=some o∧k≠id:=by
    intro k o aj;rw[ze]at aj
    split at aj
    ·cases aj
    ·rename_i cb
     exact⟨aj,fun e=>cb e.symm⟩
   have view: ∀x c,bF w ro s.heap β s.next x c→bF w (fun b=>ro b∨b9 (β id)=some b) (mb [(id,.row true t n es)] (gu s.heap id)) β s.next (hJ [(id,.row true t n es)] x) c:=by
    intro x c hx
    induction hx with
    |aw x c hx=>exact .aw x c (hx.keep (fun _ _=>rfl) fun _ h=>.inl h)
    |agg cs c aa _ a7=>
     refine .agg _ c (by rw[nB];exact aa) fun j x af=>?_
     obtain⟨y,ay,rfl⟩:=oI _ af;exact a7 j y ay
    |tuple cs c aa _ a7=>
     refine .tuple _ c (by rw[nB];exact aa) fun j x af=>?_
     obtain⟨y,ay,rfl⟩:=oI _ af;exact a7 j y ay
    |ptr k off c ar ak=>
     refine .ptr k off c ar fun bI cs' ah=>?_
     rw[pZ]at ah
     cases aj:aG (gu s.heap id) k with
     |none=>simp[aj]at ah
     |some p=>
      cases p with
      |box t2 zF=>exact ak t2 zF (gC k _ aj).1
      |row=>simp[aj,kv]at ah
      |bT=>simp[aj,kv]at ah
    |dC k off c ar ak=>
     refine .dC k off c ar fun bI cs' ah=>?_
     rw[pZ]at ah
     cases aj:aG (gu s.heap id) k with
     |none=>simp[aj]at ah
     |some p=>
      cases p with
      |box t2 zF=>exact ak t2 zF (gC k _ aj).1
      |row=>simp[aj,kv]at ah
      |bT=>simp[aj,kv]at ah
    |c6 k i off c ar ak=>
     refine .c6 k i off c ar fun iA bI cT dR ah=>?_
     rw[pZ]at ah
     cases aj:aG (gu s.heap id) k with
     |none=>simp[aj]at ah
     |some p=>
      cases p with
      |box t2 zF=>simp[aj,kv]at ah
      |bT=>simp[aj,kv]at ah
      |row z2 t2 gg zdE=>
       simp only[aj,kv,Option.map_some,Option.some.injEq,ei.row.injEq]at ah;obtain⟨rfl,rfl,rfl,rfl⟩:=ah;exact ak _ _ _ _ (gC k _ aj).1
    |aR k c ar ak=>
     simp only[hJ,aG]
     by_cases aj:id=k
     ·subst aj
      simp only[if_true];rw[ak _ _ _ _ bh];exact .aw _ _ Dp
     ·simp only[if_neg aj]
      refine .aR k c ar fun iA bI cT dR ah=>?_
      rw[pZ]at ah
      cases eA:aG (gu s.heap id) k with
      |none=>simp[eA]at ah
      |some p=>
       cases p with
       |box t2 zF=>simp[eA,kv]at ah
       |bT=>simp[eA,kv]at ah
       |row z2 t2 gg zdE=>exact ak _ _ _ _ (gC k _ eA).1
    |fn f p q c d aa ae _ _ ha hb=>
     refine .fn f _ _ c d (by rw[nB];exact aa) (by rw[nB];exact ae) (fun j x af=>?_) (fun j x af=>?_)
     ·obtain⟨y,ay,rfl⟩:=oI _ af
      exact ha j y ay
     ·obtain⟨y,ay,rfl⟩:=oI _ af
      exact hb j y ay
    |ref k c ar ak=>
     refine .ref k c ar fun bU ah=>?_
     rw[pZ]at ah
     cases aj:aG (gu s.heap id) k with
     |none=>simp[aj]at ah
     |some p=>
      cases p with
      |box=>simp[aj,kv]at ah
      |row=>simp[aj,kv]at ah
      |bT ln=>exact ak ln (gC k _ aj).1
    |top c=>exact .top c
   have back: ∀k o,aG (mb [(id,.row true t n es)] (gu s.heap id)) k=some o→∃p,aG s.heap k=some p∧k≠id∧p.live=o.live∧o=kv [(id,.row true t n es)] p:=by
    intro k o ah;rw[pZ]at ah
    cases aj:aG (gu s.heap id) k with
    |none=>simp[aj]at ah
    |some p=>
     obtain⟨aa,ae⟩:=gC k p aj;refine⟨p,aa,ae,?_,?_⟩
     ·simp[aj]at ah
      subst ah
      cases p<;>rfl
     ·simp[aj]at ah
      exact ah.symm
   refine⟨β,fun b=>ro b∨b9 (β id)=some b,h.defers,by simpa[nB]using h.size,fun i x hx=>?_,⟨fun k o ah=>?_,fun k bu o ct b ah dX ar sn ad ga=>?_,fun b ad=>?_,fun b ad=>?_⟩,
    h.h7.keep (fun _ _=>rfl) fun _ h=>.inl h,?_,h.base⟩
   ·obtain⟨y,ay,rfl⟩:=oI _ hx
    exact view _ _ (h.slot i y ay)
   ·obtain⟨p,aa,ae,au,rfl⟩:=back k o ah
    have ao:=h.heap.dh k p aa
    cases ao with
    |box bI cs' b arr aE bo cv eC=>
     refine .box bI _ b arr aE bo (by rw[nB];exact cv) fun j x af=>?_
     obtain⟨y,ay,rfl⟩:=oI _ af;exact view _ _ (eC j y ay)
    |row bI cT dR Kh aE bo cv=>exact .row bI cT dR Kh aE bo fun j x af=>(cv j x af).keep (fun _ _=>rfl) fun _ h=>.inl h
    |gi bI cT dR aE=>exact .gi bI cT dR (aE.keep (fun _ _=>rfl) fun _ h=>.inl h)
    |bT bU b o aE bo cv=>exact .bT bU b o aE bo (bU.mono _ _ _ _ (fun x c h=>h.keep (fun _ _=>rfl) fun _ h=>.inl h) cv)
   ·obtain⟨p,aa,_,au,_⟩:=back k o ah
    obtain⟨gb,so,_,zdF,_⟩:=back bu ct dX;exact h.heap.inj k bu p gb b aa so (au.trans ar) (zdF.trans sn) ad ga
   ·rintro⟨k,o,ah,ar,bm⟩
    obtain⟨p,aa,ae,au,_⟩:=back k o ah
    rcases ad with ad|ad
    ·exact h.heap.fk b ad ⟨k,p,aa,au.trans ar,bm⟩
    ·exact ae (h.heap.inj k id p _ b aa bh (au.trans ar) rfl bm ad)
   ·rcases ad with ad|ad
    ·exact h.heap.lt b ad
    ·exact(db.hG ad).1
   ·have bI:=h.trans
    refine⟨bI.os,bI.tape,bI.output,bI.size,bI.frame,fun b ad=>?_,fun b ad=>.inl (bI.jZ b ad),?_,fun k aj o ah=>?_,fun k o ah=>?_,bI.le⟩
    ·rcases ad with ad|ad
     ·exact bI.jk b ad
     ·rcases bI.gZ b ⟨id,_,bh,rfl,ad⟩with hc|hc
      ·exact .inr (.inl hc)
      ·exact .inr (.inr hc)
    ·rintro b ⟨k,o,ah,ar,bm⟩
     obtain⟨p,aa,_,au,_⟩:=back k o ah;exact bI.gZ b ⟨k,p,aa,au.trans ar,bm⟩
    ·obtain⟨p,aa,_,_,_⟩:=back k o ah
     exact bI.dM k aj p aa
    ·obtain⟨p,aa,_,_,_⟩:=back k o ah
     exact bI.new k p aa
 ·exact cu.refl s
end Go.aO
namespace Go.aO
open Go
def p0(s:ByteArray)(pos:Nat):we:=⟨fun _ v o=>(∃b,v= .pointer (some ⟨b,0,none⟩))∧o= .stringIter s pos,fun _ _ _ _ _ h=>h,none,fun _ h=>by cases h⟩
section
variable {P:Program} {G:bd} {o:Oper} {s:aU}
theorem run_newObj(h8:Obj)(w:World):(newObj h8).run P w= .ok w.heap.size (w.alloc h8):=rfl
theorem RV{w:World}{r:Nat}{b:ByteArray}{p:Nat}(h:w.heap[r]? =some (.stringIter b p)):(getObj r).run P w= .ok (.stringIter b p) w:=by simp[getObj,Sem.run,h]
theorem zdG{w:World}{r:Nat}{b:ByteArray}{p:Nat}(h8:Obj)(h:w.heap[r]? =some (.stringIter b p)):(setObj r h8).run P w= .ok () {w with heap:=w.heap.setIfInBounds r h8}:=by simp[setObj,Sem.run,h]
theorem zdH(t:TypeId)(x:Operand)(ao:o.op= .range t x)(aK:P.underlying t=some .string){b:ByteArray}(hx:aM G s x= .aw (.v (.string b)))(ad:s.base≤s.next):
 dS P G o s ({s with heap:=(s.next,.bT (p0 b 0))::s.heap,next:=s.next+1}.put o.dst (.ref s.next)):=by
 intro E a w ⟨β,ro,ag⟩ K Q hK
 unfold Oper.wp
 simp only[execOp,ao,ag.ee hx,Sem.run_bind,Instr.range,run_underlying aK,Result.andThen_ok,Sem.run_pure]
 have jl:aG s.heap s.next=none:=by
  cases ah:aG s.heap s.next with
  |none=>rfl
  |some p=>have:=ag.trans.new _ _ ah;omega
 have fh:=ag.new (w':=w.alloc (.stringIter b 0)) s.next jl ad (Nat.le_refl _) (.bT (p0 b 0)) (.pointer (some ⟨w.heap.size,0,none⟩)) rfl rfl rfl (by simp) (fun b ad=>Go.RowKit.Below.heap_alloc w _ b ad) (fun b ad=>by simp[b9]at ad;omega) rfl
  (.bT _ w.heap.size (.stringIter b 0) (by rw[dT];rfl) (heap_alloc_new w _) ⟨⟨_,dT _ _ _⟩,rfl⟩)
 have aj:=hK _ _ ⟨_,ro,fh.put o.dst (.ref s.next) (.pointer (some ⟨w.heap.size,0,none⟩)) (.ref _ _ (Nat.lt_succ_self _) fun bU _=>(dT _ _ _).symm)⟩
 rw[run_newObj]
 exact aj
theorem zdI(x:Operand)(ao:o.op= .next x true){id:Nat}(hx:aM G s x= .ref id){b:ByteArray}{pos:Nat}(bh:aG s.heap id=some (.bT (p0 b pos)))(ak:b.size≤pos):
 cX P G o s (.tuple [.aw (.v (.bool false))]):=
 fun E a w β ro ag=>by
  have dr:=ag.heap.dh id _ bh
  cases dr with
  |bT _ Dq h8 aa ae au=>
   obtain⟨⟨b',ga⟩,rfl⟩:=au
   have dU:=ag.eval x
   rw[hx]at dU;generalize he:a.eval x=c at dU
   cases dU with
   |ref _ _ _ hc=>
    have iT:=hc _ bh
    rw[ga]at aa iT;simp only[b9,Option.some.injEq]at aa;subst aa;refine⟨.tuple #[.bool false],?_,.tuple _ _ rfl fun j y af=>?_⟩
    ·have hn: ¬pos<b.size:=by omega
     rw[iT]at he;simp[execOp,ao,he,Instr.next,RV ae,hn]
    ·cases j with
     |zero=>simp at af;subst af;exact .fG rfl
     |succ j=>simp at af
theorem zdJ(x:Operand)(ao:o.op= .next x true){id:Nat}(hx:aM G s x= .ref id){b:ByteArray}{pos:Nat}(bh:aG s.heap id=some (.bT (p0 b pos)))(ak:pos<b.size){c k:Nat}(hd:Utf8.decode b pos=(c,k)):
 dS P G o s ({s with heap:=eQ s.heap id (.bT (p0 b (pos+k)))}.put o.dst (.tuple [.aw (.v (.bool true)),.aw (.v (.int .i64 (pos:Int))),.aw (.v (.int .i32 (c:Int)))])):=by
 intro E a w ⟨β,ro,ag⟩ K Q hK
 have dr:=ag.heap.dh id _ bh
 cases dr with
 |bT _ Dq h8 aa ae au=>
  obtain⟨⟨b',ga⟩,rfl⟩:=au
  have dU:=ag.eval x
  rw[hx]at dU;generalize he:a.eval x=oO at dU
  cases dU with
  |ref _ _ _ hc=>
   have iT:=hc _ bh
   have oP:=aa
   rw[ga]at aa iT;simp only[b9,Option.some.injEq]at aa;subst aa;rw[iT]at he;unfold Oper.wp
   have cy:(execOp a.eval o).run P w= .ok (.value (.tuple #[.bool true,goInt pos,.int .i32 c])) {w with heap:=w.heap.setIfInBounds b' (.stringIter b (pos+k))}:=by
    simp[execOp,ao,he,Instr.next,RV ae,ak,hd,zdG _ ae]
   rw[cy]
   have bR:=(Array.getElem?_eq_some_iff.1 ae).1
   have hw:=ag.write (w':={w with heap:=w.heap.setIfInBounds b' (.stringIter b (pos+k))}) id _ (.bT (p0 b (pos+k))) bh rfl rfl (.inr (.inr ⟨_,_,rfl,rfl⟩)) rfl rfl rfl (by simp) (fun j af cb=>by
    have:b'≠j:=fun e=>cb (by rw[ga,←e];rfl)
    simp[Array.getElem?_setIfInBounds_ne this]) (.bT _ b' (.stringIter b (pos+k)) oP (by simp[bR]) ⟨⟨b',ga⟩,rfl⟩)
   refine hK _ _ ⟨β,ro,hw.put o.dst _ _ (.tuple _ _ rfl fun j y af=>?_)⟩
   match j,af with
   |0,af=>simp at af;subst af;exact .fG rfl
   |1,af=>simp at af;subst af;exact .fG rfl
   |2,af=>simp at af;subst af;exact .fG rfl
   |j+3,af=>simp at af
end
end Go.aO
namespace Go.aO
open Go
section
variable {P:Program} {G:bd} {o:Oper} {s:aU} {E:Entry} {a:Act} {w w':World} {β:Nat→Value} {ro ro':Nat→Prop}
theorem df.grow(h:df E G s a w β ro)(oC:w'.os=w.os)(oD:w'.tape=w.tape)(kq:w'.output=w.output)(bY:w.heap.size≤w'.heap.size)(hw: ∀b,b<w.heap.size→w'.heap[b]? =w.heap[b]?)
 (cl: ∀b,ro b→ro' b)(fh: ∀b,ro' b→ro b∨(w.heap.size≤b∧b<w'.heap.size)):df E G s a w' β ro':=by
 have aj: ∀b,ro b→w'.heap[b]? =w.heap[b]? :=fun b ad=>hw b (h.heap.lt b ad)
 refine⟨h.defers,h.size,fun i x hx=>(h.slot i x hx).keep aj cl (Nat.le_refl _) (fun _ t cs ah=>⟨rfl,t,cs,ah⟩) (fun _ z t _ es ah=>⟨rfl,z,t,es,ah⟩) (fun _ bU ah=>⟨rfl,bU,ah⟩),
  ⟨fun id h8 ah=>(h.heap.dh id h8 ah).keep aj cl (Nat.le_refl _) bY rfl (fun ar b ad=>hw b ((h.heap.dh id h8 ah).hG ar ad)) (fun _ t cs ah=>⟨rfl,t,cs,ah⟩) (fun _ z t _ es ah=>⟨rfl,z,t,es,ah⟩) (fun _ bU ah=>⟨rfl,bU,ah⟩),h.heap.inj,fun b ad ao=>?_,fun b ad=>?_⟩,
  h.h7.keep aj cl,?_,h.base⟩
 ·rcases fh b ad with aa|⟨aa,_⟩
  ·exact h.heap.fk b aa ao
  ·obtain⟨id,h8,ah,ar,ga⟩:=ao
   have:=(h.heap.dh id h8 ah).hG ar ga
   omega
 ·rcases fh b ad with aa|⟨_,aa⟩
  ·exact Nat.lt_of_lt_of_le (h.heap.lt b aa) bY
  ·exact aa
 ·have t:=h.trans
  refine⟨oC.trans t.os,oD.trans t.tape,kq.trans t.output,Nat.le_trans t.size bY,fun b ad hn=>(hw b (Nat.lt_of_lt_of_le ad t.size)).trans (t.frame b ad hn),fun b ad=>?_,fun b ad=>cl b (t.jZ b ad),t.gZ,t.dM,t.new,t.le⟩
  rcases fh b ad with aa|⟨aa,_⟩
  ·exact t.jk b aa
  ·exact .inr (.inr (Nat.le_trans t.size aa))
theorem dS.KG{t:TypeId}{n:Nat}{es:List (List bb)}(bk:wx P G o s t n es):dS P G o s (s.put o.dst (.aw (.aR n es))):=by
 obtain⟨hn,h⟩:=bk
 intro E a w ⟨β,ro,ag⟩ K Q hK
 obtain⟨v,xs,w',cy,hv,c2,gJ,e1⟩:=h E a w β ro ag
 unfold Oper.wp
 rw[cy]
 have hw: ∀b,b<w.heap.size→w'.heap[b]? =w.heap[b]? :=fun b ad=>c2.block b ad (by simp)
 have db:h6 w' t n v es.length xs:=.Di hv
 have ah:=ag.grow (ro':=fun b=>ro b∨b9 v=some b) c2.os c2.tape c2.output c2.size hw (fun _ h=>.inl h) (fun b ad=>by
  rcases ad with h|h
  ·exact .inl h
  ·exact .inr ⟨gJ b h,(db.hG h).1⟩)
 exact hK _ _ ⟨β,_,ah.put o.dst _ _ (.aw _ _ (db.KF hn (fun j x af=>(e1 j x af).keep (fun b ad=>hw b (ag.heap.lt b ad)) fun _ h=>.inl h) fun b ad=>.inr ad))⟩
mutual
theorem RX(d:Nat): ∀(x:aF),fH x=true→pV d x=x∧gD 0 x=true
 | .aw _,_=>⟨rfl,rfl⟩
 | .agg cs,h=>by
  have:=zG d cs (by simpa[fH]using h)
  exact⟨by simp[pV,this.1],by simpa[gD]using this.2⟩
 | .tuple cs,h=>by
  have:=zG d cs (by simpa[fH]using h)
  exact⟨by simp[pV,this.1],by simpa[gD]using this.2⟩
 | .fn f p q,h=>by
  simp only[fH,Bool.and_eq_true]at h
  have aa:=zG d p h.1
  have ae:=zG d q h.2
  exact⟨by simp[pV,aa.1,ae.1],by simp[gD,aa.2,ae.2]⟩
 | .top,_=>⟨rfl,rfl⟩
 | .ptr _ _,h=>by simp[fH]at h
 | .dC _ _,h=>by simp[fH]at h
 | .c6 _ _ _,h=>by simp[fH]at h
 | .aR _,h=>by simp[fH]at h
 | .ref _,h=>by simp[fH]at h
theorem zG(d:Nat): ∀(l:List aF),e8 l=true→lq d l=l∧kQ 0 l=true
 |[],_=>⟨rfl,rfl⟩
 |x::r,h=>by
  simp only[e8,Bool.and_eq_true]at h
  have aa:=RX d x h.1
  have ae:=zG d r h.2
  exact⟨by simp[lq,aa.1,ae.1],by simp[kQ,aa.2,ae.2]⟩
end
theorem dS.zdK{x:Operand}{xs:Array Operand}{ts:Array TypeId}(ao:o.op= .call {callee:=.value x,args:=xs,argTypes:=ts}){f:FuncId}(hx:aM G s x= .fn (.func f) [] [])
 (gE:mP P f=true){args:List aF}(hX:xs.toList.map (fun y=>hJ s.heap (aM G s y))=args)(oJ:e8 args=true){r:aF}(hc:dJ P G f args [] 0 fun dK b1=>dK=r∧b1=[])(ag:fH r=true)(ad:s.base≤s.next):
 dS P G o s (s.put o.dst r):=by
 obtain⟨KH,q7⟩:=RX s.next r ag
 have:=dS.call (K:=0) ao hx gE hX oJ hc (fun _ _ h=>h) q7 rfl ad
 rw[KH]at this
 exact this
def js(ks:List Nat)(l:List aF):List aF:=l.mapIdx fun i x=>if ks.contains i then x else .top
theorem zH(ks:List Nat)(l:List aF)(i:Nat):(js ks l)[i]? =(l[i]?).map fun x=>if ks.contains i then x else .top:=by
 simp[js]
theorem df.mask(h:df E G s a w β ro)(ks:List Nat):df E G {s with c0:=js ks s.c0} a w β ro:=by
 refine⟨h.defers,by simp[js,h.size],fun i x hx=>?_,h.heap,h.h7,h.trans,h.base⟩
 simp only[zH]at hx
 cases hi:s.c0[i]? with
 |none=>simp[hi]at hx
 |some y=>
  simp only[hi,Option.map_some,Option.some.injEq]at hx
  split at hx
  ·subst hx;exact h.slot i y hi
  ·subst hx;exact .top _
def DStep(P:Program)(G:bd)(ops:Array Oper)(dx:aU)(T:List aF)(o:Oper)(v:aF):Prop:=
 ∀s:aU,s.heap=dx.heap→s.next=dx.next→s.base=dx.base→s.c0.length=T.length→(∀t∈o.looksAt ops,s.c0[t]? =T[t]?)→
  (dO ops s o=some true∧dS P G o s (s.put o.dst v))∨(dO ops s o=some false∧v= .tuple [])
theorem KI{ks:List Nat}{l gz:List aF}(hlen:l.length=gz.length)(h: ∀t∈ks,l[t]? =gz[t]?):js ks l=js ks gz:=by
 apply List.ext_getElem?
 intro i
 rw[zH,zH]
 by_cases hi:i∈ks
 ·rw[h i hi]
 ·have hc:ks.contains i=false:=by simpa using hi
  simp only[hc]
  by_cases ar:i<l.length
  ·rw[List.getElem?_eq_getElem ar,List.getElem?_eq_getElem (by omega)];rfl
  ·rw[List.getElem?_eq_none (by omega),List.getElem?_eq_none (by omega)]
theorem KJ{ops:Array Oper}{ks:List Nat}(aj: ∀j b,o.guard=some (j,b)→∀d,l6 ops j=some d→d∈ks):dO ops {s with c0:=js ks s.c0} o=dO ops s o:=by
 unfold dO
 cases ah:o.guard with
 |none=>rfl
 |some KK=>
  obtain⟨j,b⟩:=KK;simp only
  cases hd:l6 ops j with
  |none=>rfl
  |some d=>
   have hm:ks.contains d=true:=by simpa using aj j b ah d hd
   simp only[zH]
   cases ai:s.c0[d]? with
   |none=>simp
   |some x=>simp only[Option.map_some,hm,if_true]
theorem KL{ops:Array Oper}(j:Nat)(b:Bool)(ah:o.guard=some (j,b))(d:Nat)(hd:l6 ops j=some d):d∈o.looksAt ops:=by
 unfold l6 at hd
 simp[Oper.looksAt,ah,hd]
theorem DStep.val{ops:Array Oper}{dx:aU}{T:List aF}{v:aF}(ah:dO ops ⟨js (o.looksAt ops) T,dx.heap,dx.next,dx.base⟩ o=some true)(ax:q6 P G o ⟨js (o.looksAt ops) T,dx.heap,dx.next,dx.base⟩=some v):DStep P G ops dx T o v:=by
 intro s aa ae au hlen bZ
 have hm:=KI hlen bZ
 have dH:({s with c0:=js (o.looksAt ops) s.c0}:aU)=⟨js (o.looksAt ops) T,dx.heap,dx.next,dx.base⟩:=by rw[hm,←aa,←ae,←au]
 refine .inl ⟨by rw[←KJ (ks:=o.looksAt ops) KL,dH];exact ah,cX.step fun E a w β ro ag=>?_⟩
 have dY:=ag.mask (o.looksAt ops)
 rw[dH]at dY
 have:=KE ax E a w β ro dY
 simpa only[aa,ae]using this
theorem zdL{ks:List Nat}{y:Operand}(ay: ∀t,y= .tmp t→t∈ks):aM G {s with c0:=js ks s.c0} y=aM G s y:=by
 cases y with
 |tmp t=>
  have hm:ks.contains t=true:=by simpa using ay t rfl
  simp only[aM,List.getD,zH]
  cases ai:s.c0[t]? with
  |none=>rfl
  |some x=>simp only[Option.map_some,hm,if_true]
 |_=>rfl
theorem DStep.of{ops:Array Oper}{dx:aU}{T:List aF}{v:aF}(ah:dO ops ⟨js (o.looksAt ops) T,dx.heap,dx.next,dx.base⟩ o=some true)
 (h: ∀s:aU,s.heap=dx.heap→s.next=dx.next→s.base=dx.base→(∀y:Operand,(∀t,y= .tmp t→t∈o.looksAt ops)→aM G s y=aM G ⟨js (o.looksAt ops) T,dx.heap,dx.next,dx.base⟩ y)→dS P G o s (s.put o.dst v)):DStep P G ops dx T o v:=by
 intro s aa ae au hlen bZ
 have hm:=KI hlen bZ
 have dH:({s with c0:=js (o.looksAt ops) s.c0}:aU)=⟨js (o.looksAt ops) T,dx.heap,dx.next,dx.base⟩:=by rw[hm,←aa,←ae,←au]
 refine .inl ⟨by rw[←KJ (ks:=o.looksAt ops) KL,dH];exact ah,h s aa ae au fun y ay=>?_⟩
 rw[←dH]
 exact(zdL ay).symm
end
end Go.aO
namespace Go.aO
open Go
def wB(l:List Oper)(sq:List aF)(p1:List aF)(E:Nat→Prop)(T:List aF):Prop:=
 T.length=p1.length∧∀t,t<p1.length→((∀j o,l[j]? =some o→E j→o.dst≠some t)→T[t]? =p1[t]?)∧(∀j o,l[j]? =some o→E j→o.dst=some t→T[t]? =sq[j]?)
theorem wB.same{l:List Oper}{sq p1 T RY:List aF}{E wC:Nat→Prop}(h:wB l sq p1 E T)(h':wB l sq p1 wC RY)(t:Nat)(he: ∀j o,l[j]? =some o→o.dst=some t→(E j↔wC j)):T[t]? =RY[t]? :=by
 by_cases aK:t<p1.length
 ·by_cases hx: ∃j o,l[j]? =some o∧E j∧o.dst=some t
  ·obtain⟨j,o,aa,ae,au⟩:=hx
   rw[(h.2 t aK).2 j o aa ae au,(h'.2 t aK).2 j o aa ((he j o aa au).1 ae) au]
  ·have aE: ∀j o,l[j]? =some o→E j→o.dst≠some t:=fun j o aa ae au=>hx ⟨j,o,aa,ae,au⟩
   have bo: ∀j o,l[j]? =some o→wC j→o.dst≠some t:=fun j o aa ae au=>hx ⟨j,o,aa,(he j o aa au).2 ae,au⟩
   rw[(h.2 t aK).1 aE,(h'.2 t aK).1 bo]
 ·rw[List.getElem?_eq_none (by have:=h.1;omega),List.getElem?_eq_none (by have:=h'.1;omega)]
def wD(T:List aF)(dst:Option Nat)(v:aF):List aF:=
 match dst with
 |some d=>T.set d v
 |none=>T
theorem zdM(T:List aF)(dst:Option Nat)(v:aF):(wD T dst v).length=T.length:=by
 cases dst<;>simp[wD]
theorem wB.put{l:List Oper}{sq p1 T:List aF}{E:Nat→Prop}(h:wB l sq p1 E T){i:Nat}{o:Oper}{v:aF}(hi:l[i]? =some o)(ax:sq[i]? =some v)
 (hd: ∀j p,l[j]? =some p→E j→p.dst≠none→p.dst≠o.dst){wC:Nat→Prop}(ir: ∀j,wC j↔E j∨j=i):wB l sq p1 wC (wD T o.dst v):=by
 refine⟨by rw[zdM];exact h.1,fun t aK=>⟨fun hn=>?_,fun j p af KM ak=>?_⟩⟩
 ·have aa:=(h.2 t aK).1 fun j p af KM=>hn j p af ((ir j).2 (.inl KM))
  cases p2:o.dst with
  |none=>exact aa
  |some d=>
   have cb:d≠t:=fun e=>hn i o hi ((ir i).2 (.inr rfl)) (by rw[p2,e])
   simp only[wD];rw[List.getElem?_set_ne cb]
   exact aa
 ·rcases (ir j).1 KM with aa|aa
  ·have ae:=(h.2 t aK).2 j p af aa ak
   cases p2:o.dst with
   |none=>exact ae
   |some d=>
    have cb:d≠t:=fun e=>hd j p af aa (by rw[ak];simp) (by rw[ak,p2,e])
    simp only[wD];rw[List.getElem?_set_ne cb]
    exact ae
  ·subst aa
   rw[hi]at af;simp only[Option.some.injEq]at af;subst af;rw[ak];simp only[wD];rw[List.getElem?_set_self (by have:=h.1;omega),ax]
section
variable {P:Program} {G:bd} {dx:aU}
abbrev wE(ops:Array Oper)(dx:aU)(T:List aF)(o:Oper):aU:=⟨js (o.looksAt ops) T,dx.heap,dx.next,dx.base⟩
theorem DStep.row{ops:Array Oper}{T:List aF}{o:Oper}{t n:Nat}{es:List (List bb)}(ah:dO ops (wE ops dx T o) o=some true)(h:wx P G o (wE ops dx T o) t n es):DStep P G ops dx T o (.aw (.aR n es)):=by
 intro s aa ae au hlen bZ
 have hm:=KI hlen bZ
 have dH:({s with c0:=js (o.looksAt ops) s.c0}:aU)=wE ops dx T o:=by rw[hm,aa,ae,au]
 refine .inl ⟨by rw[←KJ (ks:=o.looksAt ops) KL,dH];exact ah,dS.KG (t:=t) ⟨h.1,fun E a w β ro ag=>?_⟩⟩
 have dY:=ag.mask (o.looksAt ops)
 rw[dH]at dY
 exact h.2 E a w β ro dY
theorem DStep.call{ops:Array Oper}{T:List aF}{o:Oper}{x:Operand}{xs:Array Operand}{ts:Array TypeId}(ao:o.op= .call {callee:=.value x,args:=xs,argTypes:=ts})(ah:dO ops (wE ops dx T o) o=some true){f:FuncId}
 (hx:aM G (wE ops dx T o) x= .fn (.func f) [] [])(gE:mP P f=true){args:List aF}(hX:xs.toList.map (fun y=>hJ dx.heap (aM G (wE ops dx T o) y))=args)(oJ:e8 args=true){r:aF}
 (hc:dJ P G f args [] 0 fun dK b1=>dK=r∧b1=[])(ag:fH r=true)(ad:dx.base≤dx.next):DStep P G ops dx T o r:=by
 refine DStep.of ah fun s aa ae au ay=>?_
 have RZ: ∀y:Operand,(y=x∨y∈xs)→∀t,y= .tmp t→t∈o.looksAt ops:=by
  intro y ay t aK;subst aK;refine List.mem_append_left _ (List.mem_filterMap.2 ⟨.tmp t,?_,rfl⟩)
  rw[ao];simp only[Op.operands,Call.operands]
  rcases ay with h|h
  ·rw[←h];simp
  ·simp[h]
 refine dS.zdK ao (by rw[ay x (RZ x (.inl rfl))];exact hx) gE (args:=args) ?_ oJ hc ag (by rw[ae,au];exact ad)
 rw[←hX]
 apply List.map_congr_left
 intro y hm
 rw[aa,ay y (RZ y (.inr (by simpa using hm)))]
theorem DStep.cast{ops:Array Oper}{T:List aF}{o:Oper}{v bp:aF}(h:DStep P G ops dx T o v)(e:v=bp):DStep P G ops dx T o bp:=e ▸ h
end
end Go.aO
namespace Go.aO
open Go
section
variable {P:Program} {G:bd} {o:Oper} {s:aU}
def uj(P:Program)(t:TypeId):Option (TypeId × Nat × List Value):=
 match P.underlying t with
 |some (.slice e)=>match P.info? e,zeroCells P e with
  |some i,some zs=>if zs.all Value.oneCell'∧zs.length=i.size∧0<i.size then some (e,i.size,zs)else none
  |_,_=>none
 |_=>none
def nG(P:Program)(G:bd)(s:aU)(t:TypeId)(len:Nat)(parts:List (Nat × Operand)):Option (TypeId × Nat × List (List bb)):=
 match uj P t with
 |some (e,n,zs)=>
  if len=0 then(if parts.isEmpty then some (e,n,[])else none)
  else if len*n≤16777216∧(parts.map fun p=>(p.1,aM G s p.2)).all (fun p=>(c1 p.2).all (eF s.heap))then
   match j4 (fun i=>some (i*n,n)) ((List.replicate len (zs.map fun z=>aF.aw (.v z))).flatten) (parts.map fun p=>(p.1,aM G s p.2))with
   |some ds=>match iR ds with
    |some rs=>some (e,n,chunk n len rs)
    |none=>none
   |none=>none
  else none
 |none=>none
theorem Dr{t:TypeId}{len:Nat}{parts:Array (Nat × Operand)}(ao:o.op= .buildSlice t len parts){e n:Nat}{es:List (List bb)}(h:nG P G s t len parts.toList=some (e,n,es)):wx P G o s e n es:=by
 unfold nG at h
 split at h
 ·rename_i aB cT zs aK
  unfold uj at aK
  split at aK
  ·rename_i bo hu
   split at aK
   ·rename_i i zdN hi aS
    split at aK
    ·rename_i hc
     simp only[Option.some.injEq,Prod.mk.injEq]at aK;obtain⟨rfl,rfl,rfl⟩:=aK
     split at h
     ·rename_i hlen
      subst hlen
      split at h
      ·rename_i ak
       simp only[Option.some.injEq,Prod.mk.injEq]at h;obtain⟨rfl,rfl,rfl⟩:=h;refine⟨by simp,fun E a w β ro ag=>⟨.slice (some ⟨w.heap.size,0,none⟩) 0 0,[],w.alloc (.cells #[] bo),?_,?_,World.grownBy_alloc w _ none,fun b ad=>by simp[b9]at ad,by simp⟩⟩
       ·have gK:parts= #[]:=by
         apply Array.ext';simpa using ak
        subst gK;simp[execOp,ao,Instr.buildSlice,run_underlying hu,sizeOf,typeInfo,hi,Instr.fill,newRow,Sem.run_bind,Array.range_zero']
       ·exact World.ownsRow_lit w #[] 0 (Nat.zero_le _) (Nat.zero_le _) (by simp)
      ·cases h
     ·rename_i hlen
      split at h
      ·rename_i Ky
       split at h
       ·rename_i ds hf
        split at h
        ·rename_i rs gl
         simp only[Option.some.injEq,Prod.mk.injEq]at h;obtain⟨rfl,rfl,rfl⟩:=h
         have zdO:0<len*i.size:=Nat.mul_pos (Nat.pos_of_ne_zero hlen) hc.2.2
         exact zdt t len parts ao hu (by simp[hi]) aS hc.1 hc.2.1 ⟨zdO,Ky.1⟩ rfl Ky.2 hf gl
        ·cases h
       ·cases h
      ·cases h
    ·cases aK
   ·cases aK
  ·cases aK
 ·cases h
end
theorem zdP{k:Nat}(h:k+1≤9223372036854775807):IntKind.i64.wrap ((k:Int)+1)=((k+1:Nat):Int):=by
 rw[rS _ (by omega) (by omega)]
 rfl
end Go.aO
namespace Go.aO
open Go
def wF(m:Option Nat):aF→aF
 | .aw (.v (.slice none 0 0))=>match m with
  |some n=>.aw (.aR n [])
  |none=>.aw (.v (.slice none 0 0))
 |x=>x
def q8:List (Option Nat)→List aF→List aF
 |m::ms,c::cs=>wF m c::q8 ms cs
 |_,cs=>cs
def KN(m:List (Option Nat)):aF→aF
 | .agg cs=>.agg (q8 m cs)
 |x=>wF (m.headD none) x
def aU.zI(s:aU)(k:Nat)(m:List (Option Nat)):aU:=
 {s with c0:=match s.c0[k]? with|some x=>s.c0.set k (KN m x)|none=>s.c0}
theorem R0{w:World}{ro:Nat→Prop}{σ:Heap}{β:Nat→Value}{N:Nat}{m:Option Nat}{x:aF}{c:Value}(h:bF w ro σ β N x c):bF w ro σ β N (wF m x) c:=by
 unfold wF
 split
 ·cases m with
  |none=>exact h
  |some n=>
   refine .aw _ _ ?_
   cases h with
   |aw _ _ h=>
    cases h;exact .aR n [] none 0 (fun _=>undef) (Nat.le_refl _) (Nat.zero_le _) (by simp) (by simp) (by simp)
 ·exact h
theorem zdQ{m:List (Option Nat)}{cs:List aF}{j:Nat}{x:aF}(h:(q8 m cs)[j]? =some x): ∃y p,cs[j]? =some y∧x=wF p y:=by
 induction m generalizing cs j with
 |nil=>exact⟨x,none,by simpa[q8]using h,by unfold wF;split<;>rfl⟩
 |cons a m a7=>
  cases cs with
  |nil=>simp[q8]at h
  |cons c cs=>
   cases j with
   |zero=>simp[q8]at h;exact⟨c,a,rfl,h.symm⟩
   |succ j=>simp only[q8,List.getElem?_cons_succ]at h⊢;exact a7 h
theorem zdR(m:List (Option Nat))(cs:List aF):(q8 m cs).length=cs.length:=by
 induction m generalizing cs with
 |nil=>rfl
 |cons a m a7=>cases cs<;>simp[q8,a7]
theorem zdS{w:World}{ro:Nat→Prop}{σ:Heap}{β:Nat→Value}{N:Nat}{m:List (Option Nat)}{x:aF}{c:Value}(h:bF w ro σ β N x c):bF w ro σ β N (KN m x) c:=by
 unfold KN
 split
 ·cases h with
  |agg cs c aa ae=>
   refine .agg _ _ (by rw[aa,zdR]) fun j y af=>?_
   obtain⟨z,p,aS,rfl⟩:=zdQ af;exact R0 (ae j z aS)
 ·exact R0 h
theorem cu.zI{s bC:aU}(k:Nat)(m:List (Option Nat))(h:s.zI k m=bC):cu s bC:=by
 subst h
 intro E G a w ⟨β,ro,h⟩
 unfold aU.zI
 cases aj:s.c0[k]? with
 |none=>exact⟨β,ro,h⟩
 |some x=>
  refine⟨β,ro,h.defers,by simp[h.size],fun i y ay=>?_,h.heap,h.h7,h.trans,h.base⟩
  rw[List.getElem?_set]at ay
  split at ay
  ·rename_i e
   subst e
   split at ay
   ·simp only[Option.some.injEq]at ay
    subst ay;exact zdS (h.slot k x aj)
   ·cases ay
  ·exact h.slot i y ay
end Go.aO
namespace Go.aO
open Go
theorem cu.zdT{s bC:aU}(k e n:Nat)(aj:s.c0[k]? =some (.aw (.v (.slice none 0 0))))(ad:s.base≤s.next)
 (h:({s with c0:=s.c0.set k (.aR s.next),heap:=(s.next,.row false e n [])::s.heap,next:=s.next+1}:aU)=bC):cu s bC:=by
 subst h
 intro E G a w ⟨β,ro,ag⟩
 have jl:aG s.heap s.next=none:=by
  cases ah:aG s.heap s.next with
  |none=>rfl
  |some p=>have:=ag.trans.new _ _ ah;omega
 have sr:=bF.val (ag.slot k _ aj)
 have fh:=ag.new (w':=w) s.next jl ad (Nat.le_refl _) (.row false e n []) (.slice none 0 0) rfl rfl rfl (Nat.le_refl _) (fun _ _=>rfl) (fun c hc=>by simp[b9]at hc) rfl
  (.row e n [] [] (by rw[dT];exact⟨by simp,.inl ⟨⟨none,rfl,fun _ h=>(by cases h)⟩,rfl⟩⟩) (by simp) (by simp))
 refine⟨_,ro,fh.defers,by simpa using fh.size,fun i y ay=>?_,fh.heap,fh.h7,fh.trans,fh.base⟩
 rw[List.getElem?_set]at ay
 split at ay
 ·rename_i aE
  subst aE
  split at ay
  ·simp only[Option.some.injEq]at ay
   subst ay;refine .aR _ _ (Nat.lt_succ_self _) fun z bI cT dR _=>?_
   rw[sr];exact(dT _ _ _).symm
  ·cases ay
 ·exact fh.slot i y ay
end Go.aO
namespace Go.aO
open Go
def uk(σ:Heap):aF→Option bb
 | .aw x=>some x
 | .aR id=>match aG σ id with
  |some (.row _ _ n es)=>some (.aR n es)
  |_=>none
 | .ref id=>match aG σ id with
  |some (.bT bU)=>bU.view
  |_=>none
 |_=>none
def zJ(σ:Heap):List aF→Option (List bb)
 |[]=>some []
 |x::r=>match uk σ x,zJ σ r with
  |some y,some l=>some (y::l)
  |_,_=>none
mutual
def jL(σ:Heap):aF→aF
 | .aR id=>match aG σ id with
  |some (.row _ _ n es)=>.aw (.aR n es)
  |_=>.aR id
 | .ptr id off=>match aG σ id with
  |some (.box _ cs)=>(match zJ σ (cs.drop off)with
   |some l=>.aw (.ptr l)
   |none=>.ptr id off)
  |_=>.ptr id off
 | .agg cs=>.agg (h0 σ cs)
 | .tuple cs=>.tuple (h0 σ cs)
 | .fn f p q=>.fn f (h0 σ p) (h0 σ q)
 | .aw x=>.aw x
 | .c6 id i off=>.c6 id i off
 | .dC id n=>.dC id n
 | .ref id=>match aG σ id with
  |some (.bT bU)=>(match bU.view with
   |some x=>.aw x
   |none=>.ref id)
  |_=>.ref id
 | .top=>.top
def h0(σ:Heap):List aF→List aF
 |[]=>[]
 |x::r=>jL σ x::h0 σ r
end
theorem um(σ:Heap): ∀(l:List aF),(h0 σ l).length=l.length
 |[]=>rfl
 |x::r=>by simp[h0,um σ r]
theorem uo(σ:Heap): ∀{l:List aF} {j:Nat} {x:aF},(h0 σ l)[j]? =some x→∃y,l[j]? =some y∧x=jL σ y
 |[],j,x,h=>by simp[h0]at h
 |y::r,j,x,h=>by
  cases j with
  |zero=>simp[h0]at h;exact⟨y,by simp,h.symm⟩
  |succ j=>simp[h0]at h;simpa using uo σ h
theorem R1(σ:Heap): ∀{l:List aF} {m:List bb},zJ σ l=some m→∀{j:Nat} {x:bb},m[j]? =some x→∃y,l[j]? =some y∧uk σ y=some x
 |[],m,h,j,x,af=>by simp[zJ]at h;subst h;simp at af
 |y::r,m,h,j,x,af=>by
  simp only[zJ]at h
  split at h
  ·rename_i z l aa ae
   simp only[Option.some.injEq]at h;subst h
   cases j with
   |zero=>simp at af;subst af;exact⟨y,rfl,aa⟩
   |succ j=>simp at af;simpa using R1 σ ae af
  ·cases h
abbrev uq(ro:Nat→Prop)(σ:Heap)(β:Nat→Value):Nat→Prop:=fun b=>ro b∨Own σ β b
theorem R2{w:World}{ro:Nat→Prop}{σ:Heap}{β:Nat→Value}{N id:Nat}(bk:gY w ro σ β N){z:Bool}{t:TypeId}{n:Nat}{es:List (List bb)}(ah:aG σ id=some (.row z t n es)):cZ w (uq ro σ β) (.aR n es) (β id):=by
 have ao:=bk.dh id _ ah
 cases ao with
 |row t n es xs aa ae au=>exact aa.KF ae (fun j x af=>(au j x af).keep (fun _ _=>rfl) fun _ h=>.inl h) fun b ad=>.inr ⟨id,_,ah,rfl,ad⟩
 |gi t n es aa=>exact aa.keep (fun _ _=>rfl) fun _ h=>.inl h
theorem R3{w:World}{ro:Nat→Prop}{σ:Heap}{β:Nat→Value}{N id:Nat}(bk:gY w ro σ β N){bU:we}(ah:aG σ id=some (.bT bU)){aw:bb}(ax:bU.view=some aw):cZ w (uq ro σ β) aw (β id):=by
 have ao:=bk.dh id _ ah
 cases ao with
 |bT _ b o aa ae au=>exact bU.QS aw ax w ro _ _ o b au aa ae (fun _ h=>.inl h) (.inr ⟨id,_,ah,rfl,aa⟩)
theorem zdU{w:World}{ro:Nat→Prop}{σ:Heap}{β:Nat→Value}{N:Nat}(bk:gY w ro σ β N){x:aF}{c:Value}{y:bb}(h:bF w ro σ β N x c)(ay:uk σ x=some y):cZ w (uq ro σ β) y c:=by
 cases h with
 |aw x c hx=>
  simp only[uk,Option.some.injEq]at ay;subst ay;exact hx.keep (fun _ _=>rfl) fun _ h=>.inl h
 |aR id c ar ak=>
  simp only[uk]at ay
  split at ay
  ·rename_i z t n es ah
   simp only[Option.some.injEq]at ay;subst ay;rw[ak z t n es ah];exact R2 bk ah
  ·cases ay
 |ref id c ar ak=>
  simp only[uk]at ay
  split at ay
  ·rename_i bU ah
   rw[ak bU ah];exact R3 bk ah ay
  ·cases ay
 |_=>cases ay
theorem KO{w:World}{ro:Nat→Prop}{σ:Heap}{β:Nat→Value}{N:Nat}(bk:gY w ro σ β N){x:aF}{c:Value}(h:bF w ro σ β N x c):bF w (uq ro σ β) σ β N (jL σ x) c:=by
 induction h with
 |aR id c ar ak=>
  simp only[jL]
  split
  ·rename_i z t n es ah
   rw[ak z t n es ah];exact .aw _ _ (R2 bk ah)
  ·exact .aR id c ar ak
 |ptr id off c ar ak=>
  simp only[jL]
  split
  ·rename_i t cs ah
   split
   ·rename_i l KP
    obtain⟨b,ad,rfl⟩:=ak t cs ah
    have ao:=bk.dh id _ ah
    cases ao with
    |box t cs b' arr aE bo cv eC=>
     rw[ad]at aE;simp only[Value.pointer.injEq,Option.some.injEq,Addr.mk.injEq,and_true]at aE;subst aE
     have at_: ∀j x,l[j]? =some x→∃y,cs[off+j]? =some y∧uk σ y=some x:=fun j x af=>by
      obtain⟨y,aa,ae⟩:=R1 σ KP af;rw[List.getElem?_drop]at aa
      exact⟨y,aa,ae⟩
     refine .aw _ _ (.ptr l _ (fun j=>arr.getD (off+j) undef) (fun j x af=>?_) fun j x af=>?_)
     ·obtain⟨y,aa,_⟩:=at_ j x af
      refine⟨.inr ⟨id,_,ah,rfl,by rw[ad];rfl⟩,?_⟩
      have bR:off+j<arr.size:=by rw[cv];exact(List.getElem?_eq_some_iff.1 aa).1
      rw[addLit,cell_of_row w b (off+j) arr t (0,0) bo];simp[bR]
     ·obtain⟨y,aa,ae⟩:=at_ j x af
      exact zdU bk (eC _ y aa) ae
   ·exact .ptr id off c ar ak
  ·exact .ptr id off c ar ak
 |aw x c h=>exact .aw x c (h.keep (fun _ _=>rfl) fun _ h=>.inl h)
 |agg cs c aa _ a7=>
  refine .agg _ c (by rw[um];exact aa) fun j x af=>?_
  obtain⟨y,ay,rfl⟩:=uo σ af;exact a7 j y ay
 |tuple cs c aa _ a7=>
  refine .tuple _ c (by rw[um];exact aa) fun j x af=>?_
  obtain⟨y,ay,rfl⟩:=uo σ af;exact a7 j y ay
 |c6 id i off c aa ae=>exact .c6 id i off c aa ae
 |dC id n c aa ae=>exact .dC id n c aa ae
 |fn f p q c d aa ae _ _ ha hb=>
  refine .fn f _ _ c d (by rw[um];exact aa) (by rw[um];exact ae) (fun j x af=>?_) (fun j x af=>?_)
  ·obtain⟨y,ay,rfl⟩:=uo σ af
   exact ha j y ay
  ·obtain⟨y,ay,rfl⟩:=uo σ af
   exact hb j y ay
 |ref id c ar ak=>
  simp only[jL]
  split
  ·rename_i bU ah
   split
   ·rename_i aw ax
    rw[ak bU ah];exact .aw _ _ (R3 bk ah ax)
   ·exact .ref id c ar ak
  ·exact .ref id c ar ak
 |top c=>exact .top c
mutual
def jM:aF→Bool
 | .aw (.v _)=>true
 | .agg cs=>mT cs
 | .tuple cs=>mT cs
 |_=>false
def mT:List aF→Bool
 |[]=>true
 |x::r=>jM x&&mT r
end
theorem Ds: ∀{cs:List aF},mT cs=true→∀{j:Nat} {x:aF},cs[j]? =some x→jM x=true
 |[],_,j,x,h=>by simp at h
 |y::r,ad,j,x,h=>by
  simp only[mT,Bool.and_eq_true]at ad
  cases j with
  |zero=>simp at h;subst h;exact ad.1
  |succ j=>simp at h;exact Ds ad.2 h
theorem Dt{w w':World}{ro ro':Nat→Prop}{σ b1:Heap}{β zt:Nat→Value}{N M:Nat}{x:aF}{c:Value}(h:bF w ro σ β N x c)(ak:jM x=true):bF w' ro' b1 zt M x c:=by
 induction h with
 |aw x c h=>
  cases h with
  |v _ hx=>exact .aw _ _ (.v _ hx)
  |ptr=>simp[jM]at ak
  |aR=>simp[jM]at ak
  |mp=>simp[jM]at ak
  |er=>simp[jM]at ak
  |li=>simp[jM]at ak
 |agg cs c aa _ a7=>
  simp only[jM]at ak;exact .agg cs c aa fun j x af=>a7 j x af (Ds ak af)
 |tuple cs c aa _ a7=>
  simp only[jM]at ak;exact .tuple cs c aa fun j x af=>a7 j x af (Ds ak af)
 |_=>simp[jM]at ak
section
variable {P:Program} {G:bd} {s:aU}
theorem dS.KQ{o:Oper}{x:Operand}{xs:Array Operand}{ts:Array TypeId}(ao:o.op= .call {callee:=.value x,args:=xs,argTypes:=ts}){f:FuncId}{p q:List aF}(hx:aM G s x= .fn (.func f) p q)
 (gE:mP P f=true){args:List aF}(hX:h0 s.heap (p++xs.toList.map (aM G s)++q)=args)(oJ:e8 args=true){r:aF}(hc:dJ P G f args [] 0 fun dK ur=>dK=r∧ur=[])(hsc:jM r=true):
 dS P G o s (s.put o.dst r):=by
 intro E a w ⟨β,ro,h⟩ zdl zdm Kq
 have lr:=h.eval x
 rw[hx]at lr
 generalize he:a.eval x=Kr at lr
 cases lr with
 |fn _ _ _ c d aa ae ak aN=>
  unfold Oper.wp;simp only[execOp,ao,resolve,he,Deferred.ofValue,Sem.run_bind,Sem.run_pure,Result.andThen_ok,invoke];rw[Dc gE]
  have nz: ∀b,Own s.heap β b→b<w.heap.size:=fun b ⟨k,p,aj,ak,bm⟩=>(h.heap.dh k p aj).hG ak bm
  have hlen:args.length=p.length+xs.size+q.length:=by rw[←hX,um];simp[Nat.add_assoc]
  have ec: ∀i y,(p++xs.toList.map (aM G s)++q)[i]? =some y→bF w ro s.heap β s.next y ((c++xs.map a.eval++d).getD i undef):=fun i y ay=>by
   rw[Array.getD_eq_getD_getElem?]
   rcases Nat.lt_or_ge i (p.length+xs.size)with hi|hi
   ·rw[List.getElem?_append_left (by simpa using hi)]at ay
    rw[Array.getElem?_append_left (by simpa[aa]using hi)]
    rcases Nat.lt_or_ge i p.length with mc|mc
    ·rw[List.getElem?_append_left mc]at ay
     rw[Array.getElem?_append_left (by omega),←Array.getD_eq_getD_getElem?]
     exact ak i y ay
    ·rw[List.getElem?_append_right mc,List.getElem?_map]at ay
     rw[Array.getElem?_append_right (by omega),aa]
     cases aS:xs.toList[i-p.length]? with
     |none=>simp[aS]at ay
     |some z=>
      simp only[aS,Option.map_some,Option.some.injEq]at ay;subst ay
      have oQ:xs[i-p.length]? =some z:=by simpa using aS
      simp only[Array.getElem?_map,oQ,Option.map_some,Option.getD_some]
      exact h.eval z
   ·rw[List.getElem?_append_right (by simpa using hi)]at ay
    rw[Array.getElem?_append_right (by simpa[aa]using hi),←Array.getD_eq_getD_getElem?]
    have:=aN _ y ay
    simpa[aa]using this
  have hg:=hc w β (uq ro s.heap β) (c++xs.map a.eval++d) (by simp only[Array.size_append,Array.size_map];omega) (fun i y ay=>by
   rw[←hX]at ay;obtain⟨z,aS,rfl⟩:=uo _ ay
   exact nC (KO h.heap (ec i z aS)) (mO oJ (by rw[←hX];exact ay))) ⟨by simp[aG],by simp[aG],fun b _ ⟨_,_,ah,_⟩=>by simp[aG]at ah,fun b ad=>ad.elim (h.heap.lt b) (nz b)⟩
   (h.h7.keep (fun _ _=>rfl) fun _ h=>.inl h) (by simp[aG])
  refine Calls.mono hg fun e w' aN=>?_
  obtain⟨v,eV,fI,dN,ro',cT,rfl,⟨rfl,rfl⟩,dD,hL,cL⟩:=aN
  have kT: ∀b,¬Own ([]:Heap) β b:=fun b ⟨_,_,ah,_⟩=>by simp[aG]at ah
  have lu: ∀b,b<w.heap.size→w'.heap[b]? =w.heap[b]? :=fun b ad=>cL.frame b ad (kT b)
  have ah:=h.grow (w':=w') (ro':=ro) cL.os cL.tape cL.output cL.size lu (fun _ h=>h) (fun _ h=>.inl h)
  exact Kq _ _ ⟨β,ro,ah.put o.dst _ _ (Dt dD hsc)⟩
theorem zdV{o:Oper}{f:FuncId}{p q:Array Operand}(ao:o.op= .makeFunc (.func f) p q):cX P G o s (.fn (.func f) (p.toList.map (aM G s)) (q.toList.map (aM G s))):=
 fun _ a w β ro ag=>by
  refine⟨.func (.func f) (p.map a.eval) (q.map a.eval),by simp[execOp,ao,Instr.makeFunc],.fn _ _ _ _ _ (by simp) (by simp) (fun j x af=>?_) (fun j x af=>?_)⟩<;>
  ·rw[List.getElem?_map]at af
   rw[Array.getD_eq_getD_getElem?,Array.getElem?_map]
   simp only[Array.getElem?_toList]at af
   obtain⟨z,aS,rfl⟩:=Option.map_eq_some_iff.1 af;simp only[aS,Option.map_some,Option.getD_some];exact ag.eval z
end
end Go.aO
namespace Go.aO
open Go
inductive Hint (P:Program) (G:bd):Type 1 where
 |run (n:Nat)
 |cast (u v:aF) (h:u=v)
 |idx {α:Type} (C:α→List bb) (l:List α) (n j:Nat) (e:α) (h:l[j]? =some e)
 |R4 (b:ByteArray) (j:Nat) (u:UInt8) (h:b.data.toList[j]? =some u)
 |len {α:Type} (C:α→List bb) (l:List α) (n:Nat)
 |call (f:FuncId) (args:List aF) (r:aF) (b1:Heap) (K:Nat) (h:dJ P G f args [] 0 fun dK ur=>dK=r∧ur=b1)
 |take {α:Type} (C:α→List bb) (l:List α) (n k:Nat) (h:k≤l.length)
 |R5 {α:Type} (C:α→List bb) (l:List α) (e n:Nat)
 |app {α:Type} (C:α→List bb) (l m:List α) (id e n bytes:Nat) (h:l.length+m.length≤maxLen∧(l.length+m.length)*bytes≤140737488355328)
 |R6 (mx:Bool) (a b:Int)
 |lit (e n:Nat) (es:List (List bb))
 |row (e n:Nat) (es:List (List bb))
 |R7 (b:ByteArray)
 |zI (k:Nat) (m:List (Option Nat))
 |mS (id:Nat)
 |R8 {α:Type} (C:α→List bb) (l:List α) (id n j:Nat) (h:j<l.length)
 |R9 {α:Type} (C:α→List bb) (l:List α) (id n:Nat)
 |Sa {α:Type} (C:α→List bb) (l:List α) (id n j off k:Nat) (e:α) (h:l[j]? =some e)
 |Sb {α:Type} (C:α→List bb) (l:List α) (id n j off:Nat) (e:α) (h:l[j]? =some e)
 |mk {α:Type} (C:α→List bb) (d:α) (m c e n bytes:Nat) (h:m≤c∧c≤maxLen∧bytes*c≤281474976710656)
 |Sc (j:Nat)
 |Sd {α:Type} (C:α→List bb) (l:List α) (n:Nat) (lo hi:Option Nat) (aa:lo.getD 0≤hi.getD l.length) (ae:hi.getD l.length≤l.length)
 |Se (b:ByteArray) (lo hi:Option Nat) (aa:lo.getD 0≤hi.getD b.size) (ae:hi.getD b.size≤b.size)
 |slot (k:Nat) (u v:aF) (h:u=v)
 |KR (k e n:Nat)
 |Sf {α:Type} (C:α→List bb) (l:List α) (id n j off:Nat) (e:α) (h:l[j]? =some e)
 |Sg {α:Type} (C:α→List bb) (l:List α) (id n j off:Nat) (e aB:α) (h:l[j]? =some e)
 |Sh
 |KQ (f:FuncId) (p q args:List aF) (r:aF) (h:dJ P G f args [] 0 fun dK ur=>dK=r∧ur=[])
def wG:bb→bb
 | .aR _ []=>.v (.slice none 0 0)
 | .li _ []=>.v (.slice none 0 0)
 |x=>x
theorem Si{w:World}{ro:Nat→Prop}{x:bb}{v:Value}(h:wG x= .v v)(ax:v.oneCell'=true):cZ w ro x v:=by
 unfold wG at h
 split at h
 ·rename_i n
  simp only[bb.v.injEq]at h;subst h;exact .aR n [] none 0 (fun _=>undef) (Nat.le_refl _) (Nat.zero_le _) (by simp) (by simp) (by simp)
 ·rename_i i
  simp only[bb.v.injEq]at h;subst h;exact .li i [] _ (.aR (b5 i) [] none 0 (fun _=>undef) (Nat.le_refl _) (Nat.zero_le _) (by simp) (by simp) (by simp))
 ·subst h
  exact .v _ ax
section
variable {P:Program} {G:bd} {o:Oper} {s:aU}
theorem zdW{α:Type}(C:α→List bb)(d:α)(m c:Nat){t:TypeId}{x y:Operand}(ao:o.op= .makeSlice t x y){e n bytes:Nat}(aK:pX P t=some (e,n,bytes)){zs:List Value}(aS:zeroCells P e=some zs)(sk:zs.all Value.oneCell'=true)
 (hd:zs.map bb.v=(C d).map wG)(hx:aM G s x=iS (m:Int))(ay:aM G s y=iS (c:Int))(bY:m≤c∧c≤maxLen∧bytes*c≤281474976710656):
 wx P G o s e n ((List.replicate m d).map C):=by
 obtain⟨i,z,hu,hi,Sj,iB,jr,fe,hn⟩:=pK aK
 obtain⟨iA,_,oF,zx,hh,oQ⟩:=zl (P:=P) aS default
 have Sk:z.cells=zs.toArray:=by
  rw[hi]at hh;simp only[Option.some.injEq]at hh;subst hh;rw[Sj]at oQ;simp only[Option.some.injEq]at oQ;subst oQ;exact oF
 have l9:zs.length=n:=by rw[←fe,Sk];simp
 have nE:(C d).length=n:=by rw[←l9];have:=congrArg List.length hd;simpa using this.symm
 have ny: ∀q∈(List.replicate m d).map C,q.length=n:=by
  intro q aN;rw[List.mem_map]at aN;obtain⟨u,hu,rfl⟩:=aN;rw[List.mem_replicate]at hu;rw[hu.2];exact nE
 refine⟨ny,fun E a w β ro ag=>?_⟩
 have KS:(c:Int)≤9223372036854775807:=by
  have h:=bY.2.1
  simp only[maxLen]at h;omega
 have zE:(i.bytes:Int)*(c:Int)≤281474976710656:=by
  have h:((i.bytes*c:Nat):Int)≤281474976710656:=by rw[jr];have:=bY.2.2;omega
  rwa[Int.natCast_mul]at h
 have cy:=run_make (P:=P) w t e i z hu hi Sj .i64 .i64 (m:Int) (c:Int) (by omega) (by have:=bY.1;omega) zE KS
 simp only[Int.toNat_natCast,iB]at cy
 refine⟨.slice (some ⟨w.heap.size,0,none⟩) m c,(madeCells z.cells (c*n)).toList.take (m*n),_,by simp only[execOp,ao,ag.ee hx,ag.ee ay,Sem.run_bind,cy,Result.andThen_ok,Sem.run_pure],⟨?_,.inr ⟨w.heap.size,c,madeCells z.cells (c*n),by rw[List.length_map,List.length_replicate],Nat.zero_le _,heap_alloc_new w _,by rw[List.length_map,List.length_replicate];exact bY.1,bY.2.1,size_madeCells _ _,by rw[List.length_map,List.length_replicate]⟩⟩,World.grownBy_alloc w _ none,fun b bm=>?_,fun j x af=>?_⟩
 ·rw[List.length_take,Array.length_toList,size_madeCells,List.length_map,List.length_replicate,Nat.min_eq_left (Nat.mul_le_mul_right _ bY.1)]
 ·simp only[b9]at bm
  split at bm
  ·cases bm
  ·simp at bm;omega
 ·have cU:j<m*n:=by
   have:=(List.getElem?_eq_some_iff.1 af).1
   rwa[j0 ny,List.length_map,List.length_replicate]at this
  have hm:j=(j/ n)*n+j%n:=by rw[Nat.mul_comm];exact(Nat.div_add_mod j n).symm
  have nD:j%n<n:=Nat.mod_lt _ hn
  have zdX:j/ n<m:=by rw[Nat.div_lt_iff_lt_mul hn];exact cU
  rw[hm,qP ny (i:=j/ n) (e:=C d) (by simp[zdX]) (j%n) nD]at af
  have au:j%n<zs.length:=by omega
  have zk:j<c*n:=Nat.lt_of_lt_of_le cU (Nat.mul_le_mul_right _ bY.1)
  have aE:((madeCells z.cells (c*n)).toList.take (m*n)).getD j undef=zs[j%n]:=by
   simp[List.getD,cU,madeCells,Sk,zk,l9,List.getElem?_eq_getElem au]
  rw[aE]
  have Sl:=congrArg (·[j%n]?) hd
  simp only[List.getElem?_map,af,List.getElem?_eq_getElem au,Option.map_some,Option.some.injEq]at Sl
  refine Si Sl.symm ?_
  rw[List.all_eq_true]at sk;exact sk _ (List.getElem_mem au)
end
section
variable {P:Program} {G:bd} {o:Oper} {s:aU}
theorem Sm(j:Nat){t:TypeId}{x i:Operand}(ao:o.op= .index t x i){len e:Nat}(hu:P.underlying t=some (.array len e))(hsc:scalar P e=true)(bY:(P.info? e).map (·.size)=some 1)(hi:aM G s i=iS (j:Int)){cs:List aF}(hx:aM G s x= .agg cs){v:aF}(ax:cs[j]? =some v)(af:j<len):cX P G o s v:=
 fun _ a w β ro ag=>by
  have h:=ag.eval x
  rw[hx]at h;generalize he:a.eval x=c at h
  cases h with
  |agg _ c ai hc=>
   have bR:j<c.size:=by have:=(List.getElem?_eq_some_iff.1 ax).1;omega
   have zA:(sizeOf e).run P w= .ok 1 w:=by
    cases hi:P.info? e with
    |none=>simp[hi]at bY
    |some i=>simp[hi]at bY;simp[sizeOf,typeInfo,hi,bY]
   refine⟨c[j],?_,by simpa[bR]using hc _ v ax⟩
   simp[execOp,ao,he,ag.ee hi,Instr.index,asIntOf,run_underlying hu,zA,part,zf hsc,bR,af]
end
section
variable {P:Program} {G:bd}
def Du:Hint P G→aF
 | .run _=>.top
 | .cast u _ _=>u
 | .idx C l n j _ _=>.tuple [.aw (.aR n (l.map C)),iS (j:Int)]
 | .R4 b j _ _=>.tuple [vs b,iS (j:Int)]
 | .len C l n=>.aw (.aR n (l.map C))
 | .call f args _ _ _ _=>.tuple (.fn (.func f) [] []::args)
 | .take C l n k _=>.tuple [.aw (.aR n (l.map C)),iS (k:Int)]
 | .R5 C l _ n=>.aw (.aR n (l.map C))
 | .app C l m id _ n _ _=>.tuple [.aR id,.aw (.aR n (l.map C)),.aw (.aR n (m.map C))]
 | .R6 _ a b=>.tuple [iS a,iS b]
 | .lit _ n es=>.aw (.aR n es)
 | .row _ n es=>.aw (.aR n es)
 | .R7 b=>vs b
 | .zI _ _=>.top
 | .mS _=>.top
 | .R8 C l id n j _=>.tuple [.aR id,.aw (.aR n (l.map C)),iS (j:Int)]
 | .R9 C l id n=>.tuple [.aR id,.aw (.aR n (l.map C))]
 | .Sa C l id n j off _ _ _=>.tuple [.c6 id j off,.aw (.aR n (l.map C))]
 | .Sb C l id n j off _ _=>.tuple [.c6 id j off,.aw (.aR n (l.map C))]
 | .mk C d m c _ _ _ _=>.tuple [iS (m:Int),iS (c:Int),.aw (.ptr ((C d).map wG))]
 | .Sc j=>iS (j:Int)
 | .Sd C l n lo hi _ _=>.tuple [.aw (.aR n (l.map C)),(match lo with|some k=>iS (k:Int)|none=>.top),(match hi with|some k=>iS (k:Int)|none=>.top)]
 | .Se b lo hi _ _=>.tuple [vs b,(match lo with|some k=>iS (k:Int)|none=>.top),(match hi with|some k=>iS (k:Int)|none=>.top)]
 | .slot _ u _ _=>u
 | .KR _ _ _=>.top
 | .Sf C l id n j off _ _=>.tuple [.c6 id j off,.aw (.aR n (l.map C))]
 | .Sg C l id n j off _ aB _=>.tuple [.c6 id j off,.aw (.aR n (l.map C)),.aw (.ptr (C aB))]
 | .Sh=>.top
 | .KQ f p q args _ _=>.tuple (.fn (.func f) p q::args)
def rowOf(σ:Heap)(id n:Nat):Option (TypeId × List (List bb)):=
 match aG σ id with
 |some (.row false t m es)=>match Nat.beq m n with
  |true=>some (t,es)
  |false=>none
 |_=>none
def p3(P:Program)(G:bd)(o:Oper)(s:aU):Hint P G→Option (aF × aU)
 | .cast _ v _=>match q6 P G o s with
  |some a=>some (a,s.put o.dst v)
  |none=>none
 | .idx C _ n _ e _=>match o.op with
  | .indexAddr t x i=>match j3 P t with
   |some cT=>match Nat.beq cT n with
    |true=>some (.tuple [aM G s x,aM G s i],s.put o.dst (.aw (.ptr (C e))))
    |false=>none
   |none=>none
  |_=>none
 | .R4 _ _ u _=>match o.op with
  | .index t x i=>match isStr P t with
   |true=>some (.tuple [aM G s x,aM G s i],s.put o.dst (.aw (.v (.int .u8 (u.toNat:Int)))))
   |false=>none
  |_=>none
 | .len _ l _=>match o.op with
  | .call c=>match c.callee,c.args.toList,c.argTypes.toList with
   | .builtin .len,[x],[t]=>match isSlice P t with
    |true=>some (aM G s x,s.put o.dst (iS (l.length:Int)))
    |false=>none
   |_,_,_=>none
  |_=>none
 | .call f _ r b1 K _=>match o.op with
  | .call c=>match c.callee with
   | .value x=>match mP P f&&(e8 (c.args.toList.map fun y=>hJ s.heap (aM G s y))&&(gD K r&&(kR K b1&&Nat.ble s.base s.next)))with
    |true=>some (.tuple (aM G s x::c.args.toList.map fun y=>hJ s.heap (aM G s y)),{s with heap:=kS s.next b1++s.heap,next:=s.next+K}.put o.dst (pV s.next r))
    |false=>none
   |_=>none
  |_=>none
 | .take C l n k _=>match o.op with
  | .slice t x none (some y) none=>match j3 P t with
   |some cT=>match Nat.beq cT n with
    |true=>some (.tuple [aM G s x,aM G s y],s.put o.dst (.aw (.aR n ((l.take k).map C))))
    |false=>none
   |none=>none
  |_=>none
 | .R5 _ _ _ _=>none
 | .app C l m id e n bytes _=>match o.op with
  | .call c=>match c.callee,c.args.toList,c.argTypes.toList with
   | .builtin .append,[x,y],[t,bI]=>match pX P t with
    |some (aB,cT,b')=>match Nat.beq t bI&&(Nat.beq aB e&&(Nat.beq cT n&&(Nat.beq b' bytes&&(Nat.ble s.base id&&Nat.blt id s.next)))),rowOf s.heap id n with
     |true,some (bo,es)=>match Nat.beq bo e with
      |true=>some (.tuple [aM G s x,.aw (.aR n es),aM G s y],aU.put ⟨ef id s.c0,(id,.row false e n ((l++m).map C))::dz id s.heap,s.next,s.base⟩ o.dst (.aR id))
      |false=>none
     |_,_=>none
    |none=>none
   |_,_,_=>none
  |_=>none
 | .R6 mx a b=>match o.op with
  | .call c=>match c.callee,c.args.toList,mx with
   | .builtin .min,[x,y],false=>some (.tuple [aM G s x,aM G s y],s.put o.dst (iS (if b<a then b else a)))
   | .builtin .max,[x,y],true=>some (.tuple [aM G s x,aM G s y],s.put o.dst (iS (if b>a then b else a)))
   |_,_,_=>none
  |_=>none
 | .lit e n es=>match o.op with
  | .buildSlice t len parts=>match nG P G s t len parts.toList with
   |some (aB,cT,dR)=>match Nat.beq aB e&&Nat.beq cT n with
    |true=>some (.aw (.aR n dR),s.put o.dst (.aw (.aR n es)))
    |false=>none
   |none=>none
  |_=>none
 | .row e n es=>match o.op with
  | .buildSlice t len parts=>match nG P G s t len parts.toList with
   |some (aB,cT,dR)=>match Nat.beq aB e&&(Nat.beq cT n&&Nat.ble s.base s.next)with
    |true=>some (.aw (.aR n dR),{s with heap:=(s.next,.row false e n es)::s.heap,next:=s.next+1}.put o.dst (.aR s.next))
    |false=>none
   |none=>none
  |_=>none
 | .R7 b=>match o.op with
  | .range t x=>match isStr P t&&Nat.ble s.base s.next with
   |true=>some (aM G s x,{s with heap:=(s.next,.bT (p0 b 0))::s.heap,next:=s.next+1}.put o.dst (.ref s.next))
   |false=>none
  |_=>none
 | .R8 _ _ id n j _=>match o.op with
  | .indexAddr t x i=>match j3 P t,rowOf s.heap id n with
   |some cT,some (_,es)=>match Nat.beq cT n with
    |true=>some (.tuple [aM G s x,.aw (.aR n es),aM G s i],s.put o.dst (.c6 id j 0))
    |false=>none
   |_,_=>none
  |_=>none
 | .R9 _ l id n=>match o.op with
  | .call c=>match c.callee,c.args.toList,c.argTypes.toList with
   | .builtin .len,[x],[t]=>match isSlice P t,rowOf s.heap id n with
    |true,some (_,es)=>some (.tuple [aM G s x,.aw (.aR n es)],s.put o.dst (iS (l.length:Int)))
    |_,_=>none
   |_,_,_=>none
  |_=>none
 | .Sa C _ id n _ off k e _=>match o.op with
  | .load t x=>match l3 P t,rowOf s.heap id n with
   |some bu,some (_,es)=>match Nat.beq bu k&&(Nat.ble 1 k&&Nat.ble k ((C e).drop off).length)with
    |true=>some (.tuple [aM G s x,.aw (.aR n es)],s.put o.dst (.agg ((((C e).drop off).map aF.aw).take k)))
    |false=>none
   |_,_=>none
  |_=>none
 | .Sb C _ id n _ off e _=>match o.op with
  | .load t x=>match scalar P t,rowOf s.heap id n,(C e).drop off with
   |true,some (_,es),v::_=>some (.tuple [aM G s x,.aw (.aR n es)],s.put o.dst (.aw v))
   |_,_,_=>none
  |_=>none
 | .Sd C l n lo hi _ _=>match o.op with
  | .slice t x zK zL none=>match j3 P t,zK.isSome==lo.isSome&&zL.isSome==hi.isSome with
   |some cT,true=>match Nat.beq cT n with
    |true=>some (.tuple [aM G s x,(match zK with|some y=>aM G s y|none=>.top),(match zL with|some y=>aM G s y|none=>.top)],s.put o.dst (.aw (.aR n (((l.take (hi.getD l.length)).drop (lo.getD 0)).map C))))
    |false=>none
   |_,_=>none
  |_=>none
 | .Se b lo hi _ _=>match o.op with
  | .slice t x zK zL none=>match isStr P t&&(zK.isSome==lo.isSome&&zL.isSome==hi.isSome)with
   |true=>some (.tuple [aM G s x,(match zK with|some y=>aM G s y|none=>.top),(match zL with|some y=>aM G s y|none=>.top)],s.put o.dst (vs (b.extract (lo.getD 0) (hi.getD b.size))))
   |false=>none
  |_=>none
 | .Sc j=>match o.op with
  | .index t x i=>match P.underlying t,aM G s x with
   |some (.array len e),.agg cs=>match cs[j]?,scalar P e&&(Nat.blt j len&&((P.info? e).map (·.size)==some 1))with
    |some v,true=>some (aM G s i,s.put o.dst v)
    |_,_=>none
   |_,_=>none
  |_=>none
 | .mk C d m _ e n bytes _=>match o.op with
  | .makeSlice t x y=>match pX P t,zeroCells P e with
   |some (aB,cT,b'),some zs=>match Nat.beq aB e&&(Nat.beq cT n&&(Nat.beq b' bytes&&(zs.all Value.oneCell'&&Nat.ble s.base s.next)))with
    |true=>some (.tuple [aM G s x,aM G s y,.aw (.ptr (zs.map bb.v))],{s with heap:=(s.next,.row false e n ((List.replicate m d).map C))::s.heap,next:=s.next+1}.put o.dst (.aR s.next))
    |false=>none
   |_,_=>none
  |_=>none
 | .Sf _ _ id n j off _ _=>match o.op with
  | .fieldAddr t x f=>match sj P t f,rowOf s.heap id n with
   |some k,some (_,es)=>some (.tuple [aM G s x,.aw (.aR n es)],s.put o.dst (.c6 id j (off+k)))
   |_,_=>none
  |_=>none
 | .Sg C l id n j off e aB _=>match o.op with
  | .store t p x=>match rowOf s.heap id n,iR (c1 (aM G s x))with
   |some (bt,es),some vs=>match((P.info? t).map (·.size)==some vs.length)&&Nat.ble (off+vs.length) n with
    |true=>some (.tuple [aM G s p,.aw (.aR n es),.aw (.ptr (ej (C e) off vs))],{s with heap:=eQ s.heap id (.row false bt n ((l.set j aB).map C))}.put o.dst .top)
    |false=>none
   |_,_=>none
  |_=>none
 | .Sh=>match o.op with
  | .makeFunc (.func f) p q=>some (.top,s.put o.dst (.fn (.func f) (p.toList.map (aM G s)) (q.toList.map (aM G s))))
  |_=>none
 | .KQ f p q _ r _=>match o.op with
  | .call c=>match c.callee with
   | .value x=>match mP P f&&(e8 (h0 s.heap (p++c.args.toList.map (aM G s)++q))&&jM r)with
    |true=>some (.tuple (aM G s x::h0 s.heap (p++c.args.toList.map (aM G s)++q)),s.put o.dst r)
    |false=>none
   |_=>none
  |_=>none
 |_=>none
theorem Sn{α:Type}{a:Array α}{x:α}(h:a.toList=[x]):a= #[x]:=by apply Array.ext';simpa using h
theorem zM{α:Type}{a:Array α}{x y:α}(h:a.toList=[x,y]):a= #[x,y]:=by apply Array.ext';simpa using h
end
end Go.aO
