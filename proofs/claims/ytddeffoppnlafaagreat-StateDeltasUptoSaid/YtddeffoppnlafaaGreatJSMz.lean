/- Conditions: none. -/
import Derived.Test.YtddeffoppnlafaaGreatJSMj
import Derived.Maps.AppendAt
import Derived.Orders
import Derived.Laws.RangeAny
import Derived.Laws.RangeString
import Derived.LoopN
open Array renaming ext'->zXi,size_append->zXw
open List renaming all_eq_true->zZ2,eq_nil_of_length_eq_zero->zY6,getD->zZ8,getElem?_append_left->zYr,getElem?_append_right->zYq,getElem?_cons_succ->zXd,getElem?_drop->zYn,getElem?_eq_getElem->zZa,getElem?_eq_none->zYl,getElem?_eq_some_iff->zZ1,getElem?_map->zYo,getElem?_set_ne->zXg,getElem?_take->zYk,getElem_mem->zXj,length_map->zXe,length_replicate->zXo,map_cons->zXq,map_nil->zXp,map_toArray->zXr,mem_cons->zZf,mem_map->zXs,mem_replicate->zY9,range->zYj,replicate->zZz,size_toArray->zZc
open Nat renaming add_assoc->zYw,add_mul->zXv,add_right_comm->zXc,div_add_mod->zXm,div_lt_iff_lt_mul->zXk,eq_zero_or_pos->zXy,le_refl->zZv,le_trans->zZx,lt_of_lt_of_le->zZw,lt_succ_self->zYi,mod_lt->zXl,mul_comm->zXn,mul_le_mul_right->zYb,ne_of_gt->zXu,zero_add->zZ0,zero_le->zXx
open Option renaming getD_some->zXf,map_some->zXh
open Option.some renaming injEq->zYt
open Prod.mk renaming injEq->zXt
namespace Go.aH
open Go
def iQ(σ:bK)(n:Nat):aC->Option (List (List a7))
 | .ad (.aq m es)=>if m=n then some es else none
 | .ad (.v (.slice none 0 0))=>some []| .ad (.li i l)=>if dE i=n then some (l.map (dr i))else none
 | .aq id=>match aF σ id with
  |some (.row _ _ m es)=>if m=n then some es else none
  |_=>none
 |_=>none
section
variable {P:Program} {G:aV} {o:Oper} {s:aS}
theorem dq.elems{w:World}{ro:Nat->Prop}{n:Nat}{es:List (List a7)}{c:Value}(h:dq w ro (.aq n es) c):
 ∃b cap,c= .slice b es.length cap/\(∀e∈es,e.length=n)/\(b=none->es=[])/\∃f:Nat->Value,(∀a,b=some a->∀j,j<es.length*n->w.cell? (a.add j)=some (f j))/\∀j x,es.flatten[j]? =some x->dq w ro x (f j):=by
 cases h with
 |aq _ _ b cap f aa ae aw aN bx=>
  refine⟨b,cap,rfl,aw,λaf=>?_,f,λa ba j aj=>?_,bx⟩
  ·rcases zXy es.length with h|h
   ·exact zY6 h
   ·obtain⟨a,ba,_⟩:=aN h
    rw[af]at ba;cases ba
  ·have ar:0<es.length:=by
    rcases zXy es.length with h|h
    ·rw[h]at aj;simp at aj
    ·exact h
   obtain⟨bo,N4,hc⟩:=aN ar;rw[ba]at N4;simp only[zYt]at N4;subst N4;exact(hc j aj).2
theorem AN{w:World}{ro:Nat->Prop}{σ:bK}{β:Nat->Value}{N:Nat}(a8:hA w ro σ β N){x:aC}{c:Value}(h:bN w ro σ β N x c){n:Nat}{es:List (List a7)}(he:iQ σ n x=some es):
 ∃b cap,c= .slice b es.length cap/\(∀e∈es,e.length=n)/\(b=none->es=[])/\∃f:Nat->Value,(∀a,b=some a->∀j,j<es.length*n->w.cell? (a.add j)=some (f j))/\∀j x,es.flatten[j]? =some x->dq w ro x (f j):=by
 cases h with
 |ad x c hx=>
  cases x with
  |v y=>
   cases hx
   cases c with
   |slice a l h6=>
    cases a with
    |none=>
     cases l with
     |zero=>
      cases h6 with
      |zero=>
       simp[iQ]at he;subst he;exact⟨none,0,rfl,by simp,λ_=>rfl,λ_=>undef,by simp,by simp⟩
      |succ=>simp[iQ]at he
     |succ=>simp[iQ]at he
    |some=>simp[iQ]at he
   |_=>simp[iQ]at he
  |ptr=>simp[iQ]at he|mp=>simp[iQ]at he|eE=>simp[iQ]at he|li i l=>
   simp only[iQ]at he
   split at he
   ·rename_i hm
    subst hm;simp only[zYt]at he;subst he
    cases hx with
    |li _ _ _ hx=>exact hx.elems
   ·cases he
  |aq m e2=>
   simp only[iQ]at he
   split at he
   ·rename_i hm
    subst hm;simp only[zYt]at he;subst he;exact hx.elems
   ·cases he
 |aq id c au ar=>
  simp only[iQ]at he
  split at he
  ·rename_i z t m e2 ai
   split at he
   ·rename_i hm
    subst hm;simp only[zYt]at he;subst he;rw[ar z t _ _ ai];have eg:=a8.dB id _ ai
    cases eg with
    |row _ _ _ xs aa ae aw=>
     rcases aa.2 with⟨⟨b,az,_⟩,aW⟩|⟨g,cap,cur,az,hc,zhm,hle,kE,fH,nh⟩
     ·have:e2=[]:=zY6 aW
      subst this;rw[az];exact⟨b,0,rfl,by simp,λ_=>rfl,λ_=>undef,by simp,by simp⟩
     ·rw[az]
      refine⟨_,_,rfl,ae,by simp,λj=>xs.getD j undef,λa ba j aj=>?_,aw⟩
      simp only[zYt]at ba;subst ba;rw[addLit,zZ0,cell_of_row w g j cur t (0,0) zhm];have hx:xs[j]? =cur[j]? :=by rw[<-nh,zYk,if_pos aj];simp
      have oO:j<xs.length:=by rw[aa.1];exact aj
      rw[<-hx];simp[zZ8,zZa oO]
    |gH _ _ _ aa=>exact aa.elems
   ·cases he
  ·cases he
 |_=>simp[iQ]at he
theorem N5{w:World}(t ty e:TypeId){i:TypeInfo}{z:Value}{n bytes:Nat}(aJ:P.underlying t=some (.slice e))(hi:P.info? e=some i)(aW:i.zero=some z)(iF:i.size=n)(kH:i.bytes=bytes)(jk:z.cells.size=n)(hn:0<n)
 {v:Value}{len:Nat}{xs:List Value}(ea:l2 w e n v len xs){b:Option Addr}{m cap:Nat}{news:List Value}(au:news.length=m*n)(af:b=none->m=0)(zhn: ∀a,b=some a->∀j u,news[j]? =some u->w.cell? (a.add j)=some u)
 (aa: ∀u∈news,u.oneCell'=true)(xc:len+m<=maxLen)(Je:(len+m)*bytes<=140737488355328):
 ∃bC w',(Builtin.append_ #[t,t] ty #[v,.slice b m cap]).run P w= .ok bC w'/\l2 w' e n bC (len+m) (xs++news)/\w.grownBy w' (cF v)/\(∀k,cF bC=some k->cF v=some k\/w.heap.size<=k):=by
 by_cases hm:m=0
 ·subst hm
  have vq:news=[]:=zY6 (by simpa using au)
  subst vq;refine⟨v,w,?_,by simpa using ea,World.grownBy.refl w _,λk an=>.inl an⟩
  have Jf:(Builtin.firstCells n 0 (.slice b 0 cap)).run P w= .ok #[] w:=by
   cases b with
   |none=>simp[Builtin.firstCells]|some a=>simp[Builtin.firstCells,loadCells,loadCellsFrom]
  rcases ea.2 with⟨⟨c,rfl,_⟩,rfl⟩|⟨g,h6,cur,rfl,_,_,hle,_⟩
  ·cases c<;>simp[Builtin.append_,run_underlying aJ,sizeOf,typeInfo,hi,iF,Builtin.lenOf,Jf,storeCells]
  ·simp[Builtin.append_,run_underlying aJ,sizeOf,typeInfo,hi,iF,Builtin.lenOf,Jf,storeCells,hle]
 ·cases b with
  |none=>exact absurd (af rfl) hm|some a=>
   have fW:=zhn a rfl;have own:w.ownsRow 0 e n v len xs->_:=λiS=>run_append_own_at (P:=P) w 0 t ty e i z n bytes aJ hi aW iF kH jk hn v len xs iS a m cap news au fW aa xc Je (zXx _)
   have fin:w.ownsRow 0 e n v len xs->v.ownBlock=cF v->∃bC w',(Builtin.append_ #[t,t] ty #[v,.slice (some a) m cap]).run P w= .ok bC w'/\l2 w' e n bC (len+m) (xs++news)/\w.grownBy w' (cF v)/\(∀k,cF bC=some k->cF v=some k\/w.heap.size<=k):=by
    intro iS bp;obtain⟨bC,w',g1,g2,g3,_,g5⟩:=own iS;refine⟨bC,w',g1,.HE g2,bp ▸ g3,λk an=>?_⟩
    have fI:bC.ownBlock=some k:=by
     cases bC with
     |slice c l p=>
      cases c with
      |none=>simp[cF]at an|some c=>
       simp only[cF]at an
       split at an
       ·cases an
       ·simpa[Value.ownBlock]using an
     |pointer c=>
      rcases g2.2 with⟨h,_⟩|⟨_,_,_,h,_⟩<;>cases h
     |map c=>
      rcases g2.2 with⟨h,_⟩|⟨_,_,_,h,_⟩<;>cases h
     |_=>simp[cF]at an
    rcases g5 with h|h
    ·rw[h,bp]at fI;exact .inl fI
    ·rw[h]at fI;simp at fI;exact .inr (by omega)
   rcases ea.2 with⟨⟨c,rfl,_⟩,rfl⟩|⟨g,h6,cur,rfl,ET,ai,hle,kE,fH,nh⟩
   ·have hx:xs=[]:=zY6 (by simpa using ea.1)
    subst hx
    cases c with
    |none=>exact fin (World.ownsRow_nil w 0 e n) rfl|some c=>
     have dX:=run_append_grow (P:=P) w t ty e i z aJ hi aW c 0 0 [] (by simp) (by simp) a m cap news (by rw[iF];exact au) fW (by omega) (by simp only[maxLen]at xc;omega) (growslice_fits (by omega) (by rw[kH];exact Je))
     have iS:=World.ownsRow_made (e:=e) (size:=n) w.drew (news.toArray++Builtin.zeroCells z.cells (grownCap w (0+m) 0 e-(0+m))) (grownCap w (0+m) 0 e) (base:=0) (zXx _) (grownCap_le_maxLen w (0+m) 0 e xc) (by
      have:=grownCap_ge w (0+m) 0 e;simp only[zXw,zZc,size_zeroCells,jk,au,<-zXv]
      congr 1
      omega)
     refine⟨_,_,dX,?_,⟨rfl,rfl,rfl,by simp,λk an _=>Go.RowKit.Below.heap_alloc w.drew _ k an⟩,λk an=>?_⟩
     ·have kG:=grownCap_ge w (0+m) 0 e
      refine⟨by simp[au],.inr ⟨w.heap.size,grownCap w (0+m) 0 e,_,rfl,by omega,heap_alloc_new w.drew _,kG,grownCap_le_maxLen w (0+m) 0 e xc,?_,?_⟩⟩
      ·simp only[zXw,zZc,size_zeroCells,jk,au,<-zXv,List.length_nil,zZ0]at kG⊢
       congr 1
       omega
      ·simp only[Array.toList_append,List.nil_append,zZ0]
       rw[<-au];exact List.take_left
     ·simp only[cF]at an
      split at an
      ·cases an
      ·simp at an;exact .inr (by omega)
   ·exact fin ⟨ea.1,.inr ⟨g,h6,cur,rfl,zXx _,ai,hle,kE,fH,nh⟩⟩ (by simp[Value.ownBlock,cF,zXu ET])
def rW(P:Program)(t:TypeId):Option (Nat × Nat × Nat):=
 match P.underlying t with
 |some (.slice e)=>match P.info? e with
  |some i=>match i.zero with
   |some z=>if z.cells.size=i.size/\0<i.size then some (e,i.size,i.bytes)else none
   |none=>none
  |none=>none
 |_=>none
theorem tD{t e n bytes:Nat}(h:rW P t=some (e,n,bytes)): ∃i z,P.underlying t=some (.slice e)/\P.info? e=some i/\i.zero=some z/\i.size=n/\i.bytes=bytes/\z.cells.size=n/\0<n:=by
 unfold rW at h
 split at h
 ·rename_i aD hu
  split at h
  ·rename_i i hi
   split at h
   ·rename_i z aW
    split at h
    ·rename_i hc
     simp only[zYt,zXt]at h;obtain⟨rfl,rfl,rfl⟩:=h;exact⟨i,z,hu,hi,aW,rfl,rfl,hc.1,hc.2⟩
    ·cases h
   ·cases h
  ·cases h
 ·cases h
theorem DM{w:World}{ro:Nat->Prop}{n:Nat}{es:List (List a7)}(hn: ∀e∈es,e.length=n){f:Nat->Value}(hf: ∀j x,es.flatten[j]? =some x->dq w ro x (f j)):
 ((zYj (es.length*n)).map f).length=es.length*n/\(∀u∈(zYj (es.length*n)).map f,u.oneCell'=true)/\∀j x,es.flatten[j]? =some x->dq w ro x (((zYj (es.length*n)).map f).getD j undef):=by
 refine⟨by simp,λu hu=>?_,λj x aj=>?_⟩
 ·rw[zXs]at hu
  obtain⟨j,aj,rfl⟩:=hu;rw[List.mem_range]at aj;have au:=jZ hn;exact(hf j (es.flatten[j]'(by omega)) (by simp)).one
 ·have au:=jZ hn
  have dv:=(zZ1.1 aj).1;have:j<es.length*n:=by omega
  simpa[zZ8,this]using hf j x aj
theorem Jg{w:World}{ro:Nat->Prop}{n:Nat}{es fs:List (List a7)}(hn: ∀e∈es,e.length=n){xs ys:List Value}(hx:xs.length=es.length*n)(aa: ∀j x,es.flatten[j]? =some x->dq w ro x (xs.getD j undef))
 (ae: ∀j x,fs.flatten[j]? =some x->dq w ro x (ys.getD j undef)): ∀j x,(es++fs).flatten[j]? =some x->dq w ro x ((xs++ys).getD j undef):=by
 intro j x aj;rw[List.flatten_append]at aj;have au:=jZ hn
 by_cases h:j<es.flatten.length
 ·rw[zYr h]at aj
  have:=aa j x aj;rw[zZ8,zYr (by omega)]
  exact this
 ·rw[zYq (by omega)]at aj
  have:=ae _ x aj;rw[zZ8,zYq (by omega),hx,<-au]
  exact this
theorem zho(x y:Operand)(t:TypeId)(av:o.op= .call {callee:=.builtin .append,args:=#[x,y],argTypes:=#[t,t]}){e n bytes:Nat}(aJ:rW P t=some (e,n,bytes))
 {id:Nat}(hx:aR G s x= .aq id){es:List (List a7)}(bq:aF s.heap id=some (.row false e n es))(af:s.base<=id)(bR:id<s.next)
 {fs:List (List a7)}(aA:iQ s.heap n (aR G s y)=some fs)(b4:es.length+fs.length<=maxLen/\(es.length+fs.length)*bytes<=140737488355328):
 eL P G o s (aS.put ⟨ff id s.dn,(id,.row false e n (es++fs))::eD id s.heap,s.next,s.base⟩ o.dst (.aq id)):=by
 intro E a w ⟨β,ro,ah⟩ K Q hK;obtain⟨i,z,hu,hi,aW,iF,kH,jk,hn⟩:=tD aJ;obtain⟨b,cap,hc,ow,rZ,f,kz,r0⟩:=AN ah.heap (ah.eval y) aA;have eg:=ah.heap.dB id _ bq
 cases eg with
 |row _ _ _ xs ea b6 fW=>
  have mN:a.eval x=β id:=by
   have h:=ah.eval x;rw[hx]at h;generalize a.eval x=c at h
   cases h with
   |aq _ _ _ ar=>exact ar _ _ _ _ bq
  obtain⟨qM,tw,tx⟩:=DM ow r0
  obtain⟨bC,w',cE,sl,dX,bp⟩:=N5 (P:=P) t o.type e hu hi aW iF kH jk hn ea (b:=b) (m:=fs.length) (cap:=cap) qM (λaf=>by rw[rZ af];rfl)
   (λbo ba j u aj=>by
    have dv:=(zZ1.1 aj).1;rw[qM]at dv;have aa:=kz bo ba j dv;simp[dv]at aj
    rw[aa,aj]) tw b4.1 b4.2
  unfold Oper.wp;simp only[execOp,av,resolve,invoke,builtin,Sem.run_bind,Sem.run_pure,Result.andThen_ok,zXr,zXq,zXp,mN,hc,cE];have lG: ∀k,k<w.heap.size->cF (β id)≠some k->w'.heap[k]? =w.heap[k]? :=λk an b6=>dX.block k an (λe=>b6 e.symm);have cA: ∀k,ro k->w'.heap[k]? =w.heap[k]? :=λk an=>lG k (ah.heap.lt k an) λbp=>ah.heap.fy k an ⟨id,_,bq,rfl,bp⟩;refine hK _ _ ⟨jC β id bC,ro,dy.put (ah.renew (w':=w') id af bR bq (.row false e n (es++fs)) bC dX.os dX.tape dX.output dX.size lG bp rfl ?_) o.dst _ _ ?_⟩
  ·refine .row e n _ _ (by rw[fl,List.length_append];exact sl) (λaD jq=>?_) (λj x aj=>?_)
   ·rw[List.mem_append]at jq
    rcases jq with h|h
    ·exact b6 _ h
    ·exact ow _ h
   ·exact(Jg b6 ea.1 fW tx j x aj).keep cA λ_ h=>h
  ·exact .aq _ _ bR λz br b0 e2 _=>(fl _ _ _).symm
theorem TO(x y:Operand)(t:TypeId)(av:o.op= .call {callee:=.builtin .append,args:=#[x,y],argTypes:=#[t,t]}){e n bytes:Nat}(aJ:rW P t=some (e,n,bytes))
 (hx:aR G s x= .ad (.v (.slice none 0 0)))(af:s.base<=s.next)
 {fs:List (List a7)}(aA:iQ s.heap n (aR G s y)=some fs)(b4:fs.length<=maxLen/\fs.length*bytes<=140737488355328):
 eL P G o s ({s with heap:=(s.next,.row false e n fs)::s.heap,next:=s.next+1}.put o.dst (.aq s.next)):=by
 intro E a w ⟨β,ro,ah⟩ K Q hK;obtain⟨i,z,hu,hi,aW,iF,kH,jk,hn⟩:=tD aJ;obtain⟨b,cap,hc,ow,rZ,f,kz,r0⟩:=AN ah.heap (ah.eval y) aA;obtain⟨qM,tw,tx⟩:=DM ow r0
 obtain⟨bC,w',cE,sl,dX,bp⟩:=N5 (P:=P) (w:=w) t o.type e hu hi aW iF kH jk hn (v:=.slice none 0 0) (len:=0) (xs:=[]) ⟨by simp,.inl ⟨⟨none,rfl,λ_ h=>(by cases h)⟩,rfl⟩⟩ (b:=b) (m:=fs.length) (cap:=cap) qM (λaf=>by rw[rZ af];rfl)
  (λbo ba j u aj=>by
   have dv:=(zZ1.1 aj).1;rw[qM]at dv;have aa:=kz bo ba j dv;simp[dv]at aj
   rw[aa,aj]) tw (by omega) (by rw[zZ0];exact b4.2)
 unfold Oper.wp;simp only[execOp,av,resolve,invoke,builtin,Sem.run_bind,Sem.run_pure,Result.andThen_ok,zXr,zXq,zXp,ah.ef hx,hc,cE]
 have lB:aF s.heap s.next=none:=by
  cases ai:aF s.heap s.next with
  |none=>rfl|some p=>have:=ah.trans.new _ _ ai;omega
 have hw: ∀b,b<w.heap.size->w'.heap[b]? =w.heap[b]? :=λb af=>dX.block b af (by simp[cF])
 have cA: ∀b,ro b->w'.heap[b]? =w.heap[b]? :=λb af=>hw b (ah.heap.lt b af);refine hK _ _ ⟨jC β s.next bC,ro,dy.put (ah.new (w':=w') s.next lB af (zZv _) (.row false e n fs) bC dX.os dX.tape dX.output dX.size hw (λb af=>?_) rfl ?_) o.dst _ _ ?_⟩
 ·rcases bp b af with h|h
  ·simp[cF]at h
  ·exact h
 ·refine .row e n _ _ (by rw[fl];simpa using sl) ow (λj x aj=>(tx j x aj).keep cA λ_ h=>h)
 ·exact .aq _ _ (zYi _) λz br b0 e2 _=>(fl _ _ _).symm
theorem zdy(t:TypeId)(x y:Operand)(av:o.op= .makeSlice t x y){e n bytes:Nat}(aJ:rW P t=some (e,n,bytes)){zs:List Value}(aW:zeroCells P e=some zs)(sk:zs.all Value.oneCell'=true)
 {k bl:IntKind}{m:Nat}(hx:aR G s x= .ad (.v (.int k (m:Int))))(aA:aR G s y= .ad (.v (.int bl (m:Int))))(b4:m<=maxLen/\bytes*m<=281474976710656):
 wH P G o s e n (zZz m (zs.map a7.v)):=by
 obtain⟨i,z,hu,hi,EU,iF,kH,jk,hn⟩:=tD aJ;obtain⟨h5,_,qd,Bx,il,m7⟩:=Br (P:=P) aW default
 have EV:z.cells=zs.toArray:=by
  rw[hi]at il;simp only[zYt]at il;subst il;rw[EU]at m7;simp only[zYt]at m7;subst m7;exact qd
 have mi:zs.length=n:=by rw[<-jk,EV];simp
 refine⟨λe he=>by rw[zY9]at he;rw[he.2];simpa using mi,λE a w β ro ah=>?_⟩
 obtain⟨w',cE,iS,dX⟩:=run_make_full (P:=P) w 0 t e i z n hu hi EU iF k bl m (by rw[kH];exact b4.2) b4.1 (zXx _)
 refine⟨.slice (some ⟨w.heap.size,0,none⟩) m m,(madeCells z.cells (m*n)).toList,w',by simp[execOp,av,ah.ef hx,ah.ef aA,cE],by rw[zXo];exact iS,dX,λb bp=>?_,λj x aj=>?_⟩
 ·simp only[cF]at bp
  split at bp
  ·cases bp
  ·simp at bp;omega
 ·have dv:j<m*n:=by
   have:=(zZ1.1 aj).1
   rwa[jZ (n:=n) (λe he=>by rw[zY9]at he;rw[he.2];simpa using mi),zXo]at this
  have hm:j=(j/ n)*n+j%n:=by rw[zXn];exact(zXm j n).symm
  have nj:j%n<n:=zXl _ hn;have nk:j/ n<m:=by rw[zXk hn];exact dv
  rw[hm,q2 (n:=n) (λe he=>by rw[zY9]at he;rw[he.2];simpa using mi) (i:=j/ n) (e:=zs.map a7.v) (by simp[nk]) (j%n) nj]at aj
  have aw:j%n<zs.length:=by omega
  simp[aw]at aj;subst aj
  have aE:(madeCells z.cells (m*n)).toList.getD j undef=zs[j%n]:=by
   simp[madeCells,EV,dv,mi,zZa aw]
  rw[aE];refine .v _ ?_;rw[zZ2]at sk;exact sk _ (zXj aw)
theorem N6{cap len:Nat}{isS:Bool}{lo hi mx:Option Value}{l h m:Nat}(hm:(mx=none/\m=cap)\/∃k,mx=some (.int k (m:Int)))(a8:(hi=none/\mx=none/\h=len)\/∃k,hi=some (.int k (h:Int)))
 (au:(lo=none/\l=0)\/∃k,lo=some (.int k (l:Int)))(aa:l<=h)(ae:h<=m)(aw:m<=cap)(w:World):(Instr.sliceBounds isS len cap lo hi mx).run P w= .ok (l,h,m) w:=by
 rcases hm with⟨rfl,rfl⟩|⟨zoP,rfl⟩<;>rcases a8 with⟨rfl,xd,rfl⟩|⟨zoQ,rfl⟩<;>rcases au with⟨rfl,rfl⟩|⟨W1,rfl⟩
 all_goals first
  |(cases xd;done)
  |simp[Instr.sliceBounds,Instr.sliceBound,asIntOf,aa,ae,aw]
theorem zdh (t : TypeId) (x : Operand) (lo hi : Option Operand) (av : o.op = .slice t x lo hi none) {n : Nat} (aJ : lY P t = some n) {es : List (List a7)} (hx : aR G s x = .ad (.aq n es)) {l h : Nat}
    (au : (lo = none /\ l = 0) \/ ∃ y k, lo = some y /\ aR G s y = .ad (.v (.int k (l : Int)))) (a8 : (hi = none /\ h = es.length) \/ ∃ y k, hi = some y /\ aR G s y = .ad (.v (.int k (h : Int)))) (aa : l <= h) (ae : h <= es.length)
    {fs : List (List a7)} (re : (es.take h).drop l = fs) : c8 P G o s (.ad (.aq n fs)) :=
  λ_ a w β ro ah => by
    obtain ⟨e, hu, b4⟩ := zg aJ;have ik := ah.eval x;rw [hx] at ik; generalize hc : a.eval x = c at ik
    cases ik with
    | ad _ _ ik =>
      cases ik with
      | aq _ _ b cap f g1 g2 g3 g4 g5 =>
        have af := N6 (P := P) (cap := cap) (len := es.length) (isS := true) (lo := lo.map a.eval) (hi := hi.map a.eval) (mx := none) (l := l) (h := h) (m := cap) (.inl ⟨rfl, rfl⟩)
          (by rcases a8 with ⟨rfl, rfl⟩ | ⟨y, k, rfl, aA⟩
              · exact .inl ⟨rfl, rfl, rfl⟩
              · exact .inr ⟨k, by simp [ah.ef aA]⟩)
          (by rcases au with ⟨rfl, rfl⟩ | ⟨y, k, rfl, aA⟩
              · exact .inl ⟨rfl, rfl⟩
              · exact .inr ⟨k, by simp [ah.ef aA]⟩) aa (by omega) (zZv _) w
        have hlen : fs.length = h - l := by rw [<- re]; simp; omega
        refine ⟨.slice (if cap = l then b else Option.map (λx => x.add (l * n)) b) (h - l) (cap - l), ?_, .ad _ _ ?_⟩
        · simp only [execOp, av, Sem.run_bind, hc, Instr.sliceAt, run_underlying hu, Result.andThen_ok, Instr.slice, Option.map_none, af, b4, Sem.run_pure]
        · rw [<- hlen]
          have vr : ∀ e ∈ fs, e.length = n := λe he => g3 e (by rw [<- re] at he; exact List.mem_of_mem_take (List.mem_of_mem_drop he))
          have fM : ∀ i, i < fs.length -> fs[i]? = es[l + i]? := λi hi => by
            rw [<- re, zYn, zYk, if_pos (by omega)]
          refine .aq n fs _ (cap - l) (λj => f (l * n + j)) (by omega) (by omega) vr (λar => ?_) (λj x aj => ?_)
          · obtain ⟨dj, rfl, kF⟩ := g4 (by omega)
            refine ⟨dj.add (l * n), by rw [if_neg (by omega)]; rfl, λj aj => ?_⟩
            rw [w8, Bm]; refine kF _ ?_;have : (l + fs.length) * n <= es.length * n := zYb n (by omega)
            rw [zXv] at this; omega
          · have rb : 0 < n := by
              rcases zXy n with aP | aP
              · have := (zZ1.1 aj).1
                rw [jZ vr, aP] at this; simp at this
              · exact aP
            have dv : j < fs.length * n := by have := (zZ1.1 aj).1; rwa [jZ vr] at this
            have hm : j = (j / n) * n + j % n := by rw [zXn]; exact (zXm j n).symm
            have nj : j % n < n := zXl _ rb;have nk : j / n < fs.length := by rw [zXk rb]; exact dv
            have he : fs[j / n]? = some fs[j / n] := zZa nk;have pY := aj;rw [hm, q2 vr he (j % n) nj] at pY; refine g5 _ x ?_;have aE : l * n + j = (l + j / n) * n + j % n := by rw [zXv]; omega
            rw [aE, q2 g3 (i := l + j / n) (e := fs[j / n]) (by rw [<- fM _ nk]; exact he) (j % n) nj]
            exact pY
theorem Dm (t : TypeId) (x : Operand) (lo hi : Option Operand) (av : o.op = .slice t x lo hi none) (aJ : P.underlying t = some .string) {b : ByteArray} (hx : aR G s x = .ad (.v (.string b))) {l h : Nat}
    (au : (lo = none /\ l = 0) \/ ∃ y k, lo = some y /\ aR G s y = .ad (.v (.int k (l : Int)))) (a8 : (hi = none /\ h = b.size) \/ ∃ y k, hi = some y /\ aR G s y = .ad (.v (.int k (h : Int)))) (aa : l <= h) (ae : h <= b.size) :
    c8 P G o s (.ad (.v (.string (b.extract l h)))) :=
  λ_ a w β ro ah => by
    have af := N6 (P := P) (cap := b.size) (len := b.size) (isS := false) (lo := lo.map a.eval) (hi := hi.map a.eval) (mx := none) (l := l) (h := h) (m := b.size) (.inl ⟨rfl, rfl⟩)
      (by rcases a8 with ⟨rfl, rfl⟩ | ⟨y, k, rfl, aA⟩
          · exact .inl ⟨rfl, rfl, rfl⟩
          · exact .inr ⟨k, by simp [ah.ef aA]⟩)
      (by rcases au with ⟨rfl, rfl⟩ | ⟨y, k, rfl, aA⟩
          · exact .inl ⟨rfl, rfl⟩
          · exact .inr ⟨k, by simp [ah.ef aA]⟩) aa ae (zZv _) w
    exact ⟨_, by simp [execOp, av, ah.ef hx, Instr.sliceAt, run_underlying aJ, Instr.slice, af], .fu rfl⟩
theorem W2(src dst:TypeId)(x:Operand)(av:o.op= .convert src dst x)(ao:(P.underlying src).isSome=true){bl:IntKind}(hd:P.underlying dst=some (.int bl)){k:IntKind}{n:Int}(hx:aR G s x= .ad (.v (.int k n))):
 c8 P G o s (.ad (.v (.int bl (bl.wrap n)))):=
 λ_ a w β ro ah=>by
  cases hu:P.underlying src with
  |none=>simp[hu]at ao|some d=>exact⟨_,by simp[execOp,av,ah.ef hx,convert,run_underlying hu,run_underlying hd,Conv.intToInt],.fu rfl⟩
theorem W3(x y:Operand)(ts:Array TypeId)(av:o.op= .call {callee:=.builtin .min,args:=#[x,y],argTypes:=ts}){k:IntKind}{m n:Int}(hx:aR G s x= .ad (.v (.int k m)))(aA:aR G s y= .ad (.v (.int k n))):
 c8 P G o s (.ad (.v (.int k (if n<m then n else m)))):=
 λ_ a w β ro ah=>⟨.int k (if n<m then n else m),by simp[execOp,av,resolve,invoke,builtin,ah.ef hx,ah.ef aA,run_min_int2],.fu rfl⟩
theorem W4(x y:Operand)(ts:Array TypeId)(av:o.op= .call {callee:=.builtin .max,args:=#[x,y],argTypes:=ts}){k:IntKind}{m n:Int}(hx:aR G s x= .ad (.v (.int k m)))(aA:aR G s y= .ad (.v (.int k n))):
 c8 P G o s (.ad (.v (.int k (if n>m then n else m)))):=
 λ_ a w β ro ah=>⟨.int k (if n>m then n else m),by simp[execOp,av,resolve,invoke,builtin,ah.ef hx,ah.ef aA,run_max_int2],.fu rfl⟩
theorem zhp(cR ty:TypeId)(x y:Operand)(av:o.op= .binOp .add cR x y ty){u v:ByteArray}(hx:aR G s x= .ad (.v (.string u)))(aA:aR G s y= .ad (.v (.string v)))(b4:u.size+v.size<=9223372036854775807):
 c8 P G o s (.ad (.v (.string (u++v)))):=
 q5 .add cR ty x y av hx aA (by
  simp only[kv]
  rw[if_neg (by simp only[IntKind.max_i64];omega)])
end
end Go.aH
namespace Go.aH
open Go
def tQ(s:aS)(o:Oper)(v:aC):Option aS:=some (s.put o.dst v)
def isStr(P:Program)(t:TypeId):Bool:=
 match P.underlying t with
 |some .string=>true|_=>false
def De(P:Program)(t:TypeId):Bool:=
 match P.underlying t with
 |some .bool=>true|_=>false
theorem uP{P:Program}{t:TypeId}(h:isStr P t=true):P.underlying t=some .string:=by
 unfold isStr at h
 split at h
 ·assumption
 ·cases h
theorem Jh{P:Program}{t:TypeId}(h:De P t=true):P.underlying t=some .bool:=by
 unfold De at h
 split at h
 ·assumption
 ·cases h
def N7(P:Program)(G:aV)(b:Builtin)(xs:List Operand)(ts:List TypeId)(s:aS):Option aC:=
 match b,xs,ts with
 | .len,[x],[t]=>match m4 s.heap (aR G s x)with
  |some m=>if isSlice P t then some (.ad (.v (.int .i64 (m:Int))))else none
  |none=>match aR G s x with
   | .ad (.v (.string b))=>if isStr P t then some (.ad (.v (.int .i64 (b.size:Int))))else none
   |_=>match Dd P t with
    |some n=>some (.ad (.v (.int .i64 (n:Int))))|none=>none
 | .min,[x,y],_=>match aR G s x,aR G s y with
  | .ad (.v (.int k m)),.ad (.v (.int bl n))=>if k=bl then some (.ad (.v (.int k (if n<m then n else m))))else none
  |_,_=>none
 | .max,[x,y],_=>match aR G s x,aR G s y with
  | .ad (.v (.int k m)),.ad (.v (.int bl n))=>if k=bl then some (.ad (.v (.int k (if n>m then n else m))))else none
  |_,_=>none
 |_,_,_=>none
def uW(P:Program)(G:aV)(o:Oper)(s:aS):Option aC:=
 match o.op with
 | .move x=>some (aR G s x)| .assign x=>some (aR G s x)| .load t x=>match gj s.heap (aR G s x)with
  |some cs=>match nF P t with
   |some n=>if n<=cs.length/\0<n then some (.agg (cs.take n))else none
   |none=>if scalar P t then match cs with
    |y::_=>some y|[]=>none
    else none
  |none=>none
 | .fieldAddr t x f=>match uK P t f,ka s.heap (aR G s x)with
  |some k,true=>some (rN k (aR G s x))|_,_=>none
 | .nilCheck x=>match ka s.heap (aR G s x)with
  |true=>some (aR G s x)|false=>none
 | .field t x f=>match aR G s x,x9 P t f with
  | .agg cs,some (off,none)=>match cs[off]? with
   |some v=>some v|none=>none
  | .agg cs,some (off,some n)=>if off+n<=cs.length then some (.agg ((cs.drop off).take n))else none
  |_,_=>none
 | .indexAddr t x i=>match aR G s i with
  | .ad (.v (.int _ (.ofNat j)))=>match lY P t with
   |some n=>match oo s.heap n j (aR G s x)with
    |some p=>some p|none=>none
   |none=>match wq P t,gj s.heap (aR G s x)with
    |some (len,n),some _=>if j<len then match ku (j*n) (aR G s x)with
     |some p=>some p|none=>none
     else none
    |_,_=>none
  |_=>none
 | .index t x i=>match aR G s i,aR G s x with
  | .ad (.v (.int _ (.ofNat j))),.ad (.v (.string b))=>if isStr P t then match b.data.toList[j]? with
   |some u=>some (.ad (.v (.int .u8 (u.toNat:Int))))|none=>none
   else none
  |_,_=>none
 | .binOp op cR x y _=>match aR G s x,aR G s y with
  | .ad (.v (.bool u)),.ad (.v (.bool v))=>if De P cR then match op with
   | .eql=>some (.ad (.v (.bool (u==v))))| .neq=>some (.ad (.v (.bool (!(u==v)))))|_=>none
   else none
  | .ad (.v u),.ad (.v v)=>match kv op u v with
   |some c=>some (.ad (.v c))|none=>none
  | .agg cs,.agg ds=>match o4 P cR,iP cs,iP ds with
   |some fs,some xs,some ys=>match Av P 0 fs xs ys with
    |some b=>match op with
     | .eql=>some (.ad (.v (.bool b)))| .neq=>some (.ad (.v (.bool (!b))))|_=>none
    |none=>none
   |_,_,_=>none
  |_,_=>none
 | .unOp op _ x=>match op,aR G s x with
  | .not,.ad (.v (.bool b))=>some (.ad (.v (.bool (!b))))| .neg,.ad (.v (.int k n))=>some (.ad (.v (.int k (k.wrap (0-n)))))|_,_=>none
 | .pick c x y=>match aR G s c with
  | .ad (.v (.bool true))=>some (aR G s x)| .ad (.v (.bool false))=>some (aR G s y)|_=>none
 | .extract x i=>match aR G s x with
  | .tuple cs=>match cs[i]? with
   |some v=>some v|none=>none
  |_=>none
 | .build t parts=>match places P t,zeroCells P t with
  |some pl,some zs=>if zs.all Value.oneCell'/\(parts.toList.map λp=>(p.1,aR G s p.2)).all (λp=>(dc p.2).all (fp s.heap))then
   match lr pl (zs.map λz=>.ad (.v z)) (parts.toList.map λp=>(p.1,aR G s p.2))with
   |some ds=>some (.agg ds)|none=>none
   else none
  |_,_=>none
 | .call c=>match c.callee with
  | .builtin b=>N7 P G b c.args.toList c.argTypes.toList s|_=>none
 | .convert src dst x=>match aR G s x,P.underlying dst with
  | .ad (.v (.int _ n)),some (.int bl)=>if(P.underlying src).isSome then some (.ad (.v (.int bl (bl.wrap n))))else none
  |_,_=>none
 |_=>none
def N8(P:Program)(G:aV)(o:Oper)(s:aS):Option aS:=
 match uW P G o s with
 |some v=>tQ s o v|none=>match o.op with
  | .store t p x=>match aR G s p with
   | .ptr id off=>match aF s.heap id with
    |some (.box bt cs)=>if(dc (aR G s x)).all (fp s.heap)/\(P.info? t).map (·.size)=some (dc (aR G s x)).length/\off+(dc (aR G s x)).length<=cs.length
     then tQ {s with heap:=eX s.heap id (.box bt (eJ cs off (dc (aR G s x))))} o .top else none
    |_=>none
   | .du id i off=>match aF s.heap id with
    |some (.row false bt n es)=>match es[i]?,jU (dc (aR G s x))with
     |some e,some vs=>if(P.info? t).map (·.size)=some vs.length/\off+vs.length<=n then tQ {s with heap:=eX s.heap id (.row false bt n (es.set i (eJ e off vs)))} o .top else none
     |_,_=>none
    |_=>none
   |_=>none
  | .alloc t=>match zeroCells P t with
   |some zs=>if zs.all Value.oneCell'/\s.base<=s.next then tQ {s with heap:=(s.next,.box t (zs.map λz=>.ad (.v z)))::s.heap,next:=s.next+1} o (.ptr s.next 0)else none
   |none=>none
  | .box t x=>if(dc (aR G s x)).all (fp s.heap)/\s.base<=s.next then tQ {s with heap:=(s.next,.box t (dc (aR G s x)))::s.heap,next:=s.next+1} o (.ptr s.next 0)else none
  |_=>none
section
variable {P:Program} {G:aV} {o:Oper} {s s':aS} {v:aC}
theorem zhq{b:Builtin}{args:Array Operand}{ts:Array TypeId}(av:o.op= .call {callee:=.builtin b,args,argTypes:=ts})(h:N7 P G b args.toList ts.toList s=some v):c8 P G o s v:=by
 unfold N7 at h
 split at h
 ·rename_i x t ba Dy
  have aE:args= #[x]:=by apply zXi;simpa using ba
  have bc:ts= #[t]:=by apply zXi;simpa using Dy
  subst aE bc
  split at h
  ·rename_i m hm
   split at h
   ·rename_i aJ
    simp only[zYt]at h;subst h;exact NY x t av aJ hm
   ·cases h
  ·split at h
   ·rename_i b hx
    split at h
    ·rename_i aJ
     simp only[zYt]at h;subst h;exact NZ x t av (uP aJ) hx
    ·cases h
   ·split at h
    ·rename_i n hn
     simp only[zYt]at h;subst h;exact WN x t av hn
    ·cases h
 ·rename_i x y ba
  have aE:args= #[x,y]:=by apply zXi;simpa using ba
  subst aE
  split at h
  ·rename_i k m bl n hx aA
   split at h
   ·rename_i an
    subst an;simp only[zYt]at h;subst h;exact W3 x y ts av hx aA
   ·cases h
  ·cases h
 ·rename_i x y ba
  have aE:args= #[x,y]:=by apply zXi;simpa using ba
  subst aE
  split at h
  ·rename_i k m bl n hx aA
   split at h
   ·rename_i an
    subst an;simp only[zYt]at h;subst h;exact W4 x y ts av hx aA
   ·cases h
  ·cases h
 ·cases h
theorem Hd(h:uW P G o s=some v):c8 P G o s v:=by
 unfold uW at h
 split at h
 ·rename_i x av
  simp only[zYt]at h;subst h;exact Wc x av
 ·rename_i x av
  simp only[zYt]at h;subst h;exact Wd x av
 ·rename_i t x av
  split at h
  ·rename_i cs hc
   split at h
   ·rename_i n hn
    split at h
    ·rename_i au
     simp only[zYt]at h;subst h;exact We t x av hn hc au.1 au.2
    ·cases h
   ·split at h
    ·rename_i ao
     split at h
     ·simp only[zYt]at h;subst h;exact NI t x av ao hc
     ·cases h
    ·cases h
  ·cases h
 ·rename_i t x f av
  split at h
  ·rename_i k an hc
   simp only[zYt]at h;subst h;exact Wi t x f av an hc
  ·cases h
 ·rename_i x av
  split at h
  ·rename_i hc
   simp only[zYt]at h;subst h;exact Wj x av hc
  ·cases h
 ·rename_i t x f av
  split at h
  ·rename_i cs off hx aJ
   split at h
   ·rename_i v az
    simp only[zYt]at h;subst h;exact WS t x f av aJ hx az
   ·cases h
  ·rename_i cs off n hx aJ
   split at h
   ·rename_i hn
    simp only[zYt]at h;subst h;exact WT t x f av aJ hx hn
   ·cases h
  ·cases h
 ·rename_i t x i av
  split at h
  ·rename_i k j hi
   split at h
   ·rename_i n hn
    split at h
    ·rename_i p ar
     simp only[zYt]at h;subst h;exact WQ t x i av hn hi ar
    ·cases h
   ·split at h
    ·rename_i len n cs aJ fH
     split at h
     ·rename_i aj
      split at h
      ·rename_i p ar
       simp only[zYt]at h;subst h;exact N0 t x i av aJ hi aj fH ar
      ·cases h
     ·cases h
    ·cases h
  ·cases h
 ·rename_i t x i av
  split at h
  ·rename_i k j b hi hx
   split at h
   ·rename_i aJ
    split at h
    ·rename_i u hu
     simp only[zYt]at h;subst h;exact WR t x i av (uP aJ) hi hx hu
    ·cases h
   ·cases h
  ·cases h
 ·rename_i op cR x y ty av
  split at h
  ·rename_i u v hx aA
   split at h
   ·rename_i aJ
    split at h
    ·simp only[zYt]at h;subst h;exact Wu cR ty x y av (Jh aJ) hx aA
    ·simp only[zYt]at h;subst h;exact Wv cR ty x y av (Jh aJ) hx aA
    ·cases h
   ·cases h
  ·rename_i u v _ hx aA
   split at h
   ·rename_i c hc
    simp only[zYt]at h;subst h;exact q5 _ cR ty x y av hx aA hc
   ·cases h
  ·rename_i cs ds hx aA
   split at h
   ·rename_i fs xs ys hf q6 pq
    split at h
    ·rename_i b af
     split at h
     ·simp only[zYt]at h;subst h;exact WB cR ty x y av hf hx aA q6 pq af
     ·simp only[zYt]at h;subst h;exact WC cR ty x y av hf hx aA q6 pq af
     ·cases h
    ·cases h
   ·cases h
  ·cases h
 ·rename_i op t x av
  split at h
  ·rename_i b hx
   simp only[zYt]at h;subst h;exact WD t x av hx
  ·rename_i k n hx
   simp only[zYt]at h;subst h;exact WE t x av hx
  ·cases h
 ·rename_i c x y av
  split at h
  ·rename_i hc
   simp only[zYt]at h;subst h;exact EM c x y av hc rfl
  ·rename_i hc
   simp only[zYt]at h;subst h;exact EM c x y av hc rfl
  ·cases h
 ·rename_i x i av
  split at h
  ·rename_i cs hx
   split at h
   ·rename_i v az
    simp only[zYt]at h;subst h;exact WG x i av hx az
   ·cases h
  ·cases h
 ·rename_i t parts av
  split at h
  ·rename_i pl zs ar aW
   split at h
   ·rename_i hc
    split at h
    ·rename_i ds hf
     simp only[zYt]at h;subst h;exact WX t parts av ar aW hc.1 rfl hc.2 hf
    ·cases h
   ·cases h
  ·cases h
 ·rename_i c av
  split at h
  ·rename_i b af
   obtain⟨callee,args,ts⟩:=c;simp only at af h;subst af;exact zhq av h
  ·cases h
 ·rename_i src dst x av
  split at h
  ·rename_i k n bl hx hd
   split at h
   ·rename_i ao
    simp only[zYt]at h;subst h;exact W2 src dst x av ao hd hx
   ·cases h
  ·cases h
 ·cases h
theorem zhr(h:N8 P G o s=some s'):eL P G o s s':=by
 unfold N8 at h
 split at h
 ·rename_i v az
  simp only[tQ,zYt]at h;subst h;exact(Hd az).step
 ·split at h
  ·rename_i t p x av
   split at h
   ·rename_i id off ar
    split at h
    ·rename_i bt cs ai
     split at h
     ·rename_i hc
      simp only[tQ,zYt]at h;subst h;exact Mv t p x av ar ai rfl hc.1 hc.2.1 hc.2.2
     ·cases h
    ·cases h
   ·rename_i id i off ar
    split at h
    ·rename_i bt n es ai
     split at h
     ·rename_i e vs he az
      split at h
      ·rename_i hc
       simp only[tQ,zYt]at h;subst h;exact Mw t p x av ar ai he az hc.1 hc.2
      ·cases h
     ·cases h
    ·cases h
   ·cases h
  ·rename_i t av
   split at h
   ·rename_i zs aW
    split at h
    ·rename_i hc
     simp only[tQ,zYt]at h;subst h;exact My t av hc.2 aW hc.1
    ·cases h
   ·cases h
  ·rename_i t x av
   split at h
   ·rename_i hc
    simp only[tQ,zYt]at h;subst h;exact Mz t x av hc.2 hc.1
   ·cases h
  ·cases h
def fh(ops:Array Oper)(s:aS)(o:Oper):Option Bool:=
 match o.guard with
 |none=>some true|some (j,b)=>match ov ops j with
  |some d=>match s.dn[d]? with
   |some (.ad (.v (.bool c)))=>some (match b,c with
    |true,true=>true|false,false=>true
    |_,_=>false)
   |some (.tuple _)=>some false|_=>none
  |none=>none
def Bz(P:Program)(G:aV)(ops:Array Oper):Nat->List Oper->aS->Option aS
 |0,_,s=>some s|n+1,o::r,s=>match fh ops s o with
  |some true=>match N8 P G o s with
   |some s'=>Bz P G ops n r s'|none=>none
  |some false=>Bz P G ops n r (s.put o.dst (.tuple []))|none=>none
 |_+1,[],_=>none
variable {Q:Exit->aS->Prop}
theorem c9.step{ops:Array Oper}{rest:List Oper}(ai:fh ops s o=some true)(h:eL P G o s s')(k:c9 P G ops Q rest s'):c9 P G ops Q (o::rest) s:=by
 unfold fh at ai
 split at ai
 ·rename_i hn
  exact c9.cons hn h k
 ·rename_i j b hn
  split at ai
  ·rename_i d hd
   split at ai
   ·rename_i c ao
    simp only[zYt]at ai;have EW:b=c:=by cases b<;>cases c<;>simp_all
    subst EW;exact c9.guarded hn hd ao h k
   ·cases ai
   ·cases ai
  ·cases ai
theorem c9.pass{ops:Array Oper}{rest:List Oper}(ai:fh ops s o=some false)(k:c9 P G ops Q rest (s.put o.dst (.tuple []))):c9 P G ops Q (o::rest) s:=by
 unfold fh at ai
 split at ai
 ·cases ai
 ·rename_i j b hn
  split at ai
  ·rename_i d hd
   split at ai
   ·rename_i c ao
    simp only[zYt]at ai;have EW:c= !b:=by cases b<;>cases c<;>simp_all
    subst EW;exact c9.zg4 hn hd ao k
   ·rename_i cs ao
    exact c9.zg5 hn hd ao k
   ·cases ai
  ·cases ai
theorem c9.run{ops:Array Oper}: ∀(n:Nat) {l:List Oper} {s s':aS},Bz P G ops n l s=some s'->c9 P G ops Q (l.drop n) s'->c9 P G ops Q l s
 |0,l,s,s',h,k=>by
  simp[Bz]at h;subst h;exact k
 |n+1,[],s,s',h,k=>by simp[Bz]at h|n+1,o::r,s,s',h,k=>by
  simp only[Bz]at h
  split at h
  ·rename_i ai
   split at h
   ·rename_i s1 aa
    exact c9.step ai (zhr aa) (c9.run n h k)
   ·cases h
  ·rename_i ai
   exact c9.pass ai (c9.run n h k)
  ·cases h
end
end Go.aH
namespace Go.aH
open Go
abbrev AF(n:Int):aC:=.ad (.v (.int .i64 n))
abbrev yA(b:Bool):aC:=.ad (.v (.bool b))
abbrev vs(s:ByteArray):aC:=.ad (.v (.string s))
abbrev zhs(l:List a7):List aC:=l.map .ad
def qi:Nat->Nat->List (Nat × aC)->List aC
 |_,0,_=>[]|i,k+1,[]=>.top::qi (i+1) k []|i,k+1,(j,v)::r=>if i=j then v::qi (i+1) k r else .top::qi (i+1) k ((j,v)::r)
theorem iz(n:Int)(aa: -9223372036854775808<=n)(ae:n<=9223372036854775807):IntKind.i64.wrap n=n:=by
 rw[IntKind.wrap_i64];omega
def px(σ:bK):bK->bK
 |[]=>[]|(k,.box t cs)::r=>(k,.box t (mh σ cs))::px σ r|(k,.row z t n es)::r=>(k,.row z t n es)::px σ r|(k,.bW bU)::r=>(k,.bW bU)::px σ r
def nn(σ:bK):ey->ey
 | .box t cs=>.box t (mh σ cs)| .row z t n es=>.row z t n es| .bW bU=>.bW bU
theorem tR(σ:bK): ∀(h:bK) (k:Nat),aF (px σ h) k=(aF h k).map (nn σ)
 |[],k=>by simp[px,aF]|(j,.box t cs)::r,k=>by
  by_cases aj:j=k
  ·simp[px,aF,aj,nn]
  ·simp[px,aF,aj,tR σ r k]
 |(j,.row z t n es)::r,k=>by
  by_cases aj:j=k
  ·simp[px,aF,aj,nn]
  ·simp[px,aF,aj,tR σ r k]
 |(j,.bW bU)::r,k=>by
  by_cases aj:j=k
  ·simp[px,aF,aj,nn]
  ·simp[px,aF,aj,tR σ r k]
theorem l2.He{w:World}{ro:Nat->Prop}{t:TypeId}{n:Nat}{v:Value}{es:List (List a7)}{xs:List Value}(h:l2 w t n v es.length xs)(hn: ∀e∈es,e.length=n)(hc: ∀j x,es.flatten[j]? =some x->dq w ro x (xs.getD j undef))
 (cA: ∀b,cF v=some b->ro b):dq w ro (.aq n es) v:=by
 rcases h.2 with⟨⟨b,az,_⟩,aW⟩|⟨g,cap,cur,az,ar,ai,hle,kE,fH,nh⟩
 ·subst az
  have:es=[]:=zY6 aW;subst this;exact .aq n [] b 0 (λ_=>undef) (by simp) (zXx _) (by simp) (by simp) (by simp)
 ·subst az
  refine .aq n es _ cap (λj=>xs.getD j undef) hle kE hn (λ_=>⟨⟨g,0,none⟩,rfl,λj aj=>⟨cA g (by simp[cF,zXu ar]),?_⟩⟩) hc
  rw[addLit,zZ0,cell_of_row w g j cur t (0,0) ai];have hx:xs[j]? =cur[j]? :=by rw[<-nh,zYk,if_pos aj];simp
  have oO:j<xs.length:=by rw[h.1];exact aj
  rw[<-hx];simp[zZ8,zZa oO]
def sm(s:aS)(id:Nat):aS:=
 match aF s.heap id with
 |some (.row false t n es)=>⟨mh [(id,.row true t n es)] s.dn,px [(id,.row true t n es)] (hM s.heap id),s.next,s.base⟩
 |_=>s
theorem b5.sm(s:aS)(id:Nat):b5 s (sm s id):=by
 unfold Go.aH.sm
 split
 ·rename_i t n es bq
  intro E G a w ⟨β,ro,h⟩;have eg:=h.heap.dB id _ bq
  cases eg with
  |row _ _ _ xs ea hn hc=>

   have AD:dq w (λb=>ro b\/cF (β id)=some b) (.aq n es) (β id):=ea.He hn (λj x aj=>(hc j x aj).keep (λ_ _=>rfl) λ_ h=>.inl h) λb af=>.inr af
   have gb: ∀k o,aF (hM s.heap id) k=some o->aF s.heap k=some o/\k≠id:=by
    intro k o an;rw[ED]at an
    split at an
    ·cases an
    ·rename_i b6
     exact⟨an,λe=>b6 e.symm⟩
   have view: ∀x c,bN w ro s.heap β s.next x c->bN w (λb=>ro b\/cF (β id)=some b) (px [(id,.row true t n es)] (hM s.heap id)) β s.next (jg [(id,.row true t n es)] x) c:=by
    intro x c hx
    induction hx with
    |ad x c hx=>exact .ad x c (hx.keep (λ_ _=>rfl) λ_ h=>.inl h)
    |agg cs c aa _ bb=>
     refine .agg _ c (by rw[q8];exact aa) λj x aj=>?_
     obtain⟨y,aA,rfl⟩:=si _ aj;exact bb j y aA
    |tuple cs c aa _ bb=>
     refine .tuple _ c (by rw[q8];exact aa) λj x aj=>?_
     obtain⟨y,aA,rfl⟩:=si _ aj;exact bb j y aA
    |ptr k off c au ar=>
     refine .ptr k off c au λbr cs' ai=>?_;rw[tR]at ai
     cases an:aF (hM s.heap id) k with
     |none=>simp[an]at ai|some p=>
      cases p with
      |box t2 EX=>exact ar t2 EX (gb k _ an).1|row=>simp[an,nn]at ai|bW=>simp[an,nn]at ai
    |eb k off c au ar=>
     refine .eb k off c au λbr cs' ai=>?_;rw[tR]at ai
     cases an:aF (hM s.heap id) k with
     |none=>simp[an]at ai|some p=>
      cases p with
      |box t2 EX=>exact ar t2 EX (gb k _ an).1|row=>simp[an,nn]at ai|bW=>simp[an,nn]at ai
    |du k i off c au ar=>
     refine .du k i off c au λh5 br b0 e2 ai=>?_;rw[tR]at ai
     cases an:aF (hM s.heap id) k with
     |none=>simp[an]at ai|some p=>
      cases p with
      |box t2 EX=>simp[an,nn]at ai|bW=>simp[an,nn]at ai|row z2 t2 hq zht=>
       simp only[an,nn,zXh,zYt,ey.row.injEq]at ai;obtain⟨rfl,rfl,rfl,rfl⟩:=ai;exact ar _ _ _ _ (gb k _ an).1
    |aq k c au ar=>
     simp only[jg,aF]
     by_cases an:id=k
     ·subst an
      simp only[if_true];rw[ar _ _ _ _ bq];exact .ad _ _ AD
     ·simp only[if_neg an]
      refine .aq k c au λh5 br b0 e2 ai=>?_;rw[tR]at ai
      cases fI:aF (hM s.heap id) k with
      |none=>simp[fI]at ai|some p=>
       cases p with
       |box t2 EX=>simp[fI,nn]at ai|bW=>simp[fI,nn]at ai|row z2 t2 hq zht=>exact ar _ _ _ _ (gb k _ fI).1
    |fn f p q c d aa ae _ _ h7 h8=>
     refine .fn f _ _ c d (by rw[q8];exact aa) (by rw[q8];exact ae) (λj x aj=>?_) (λj x aj=>?_)
     ·obtain⟨y,aA,rfl⟩:=si _ aj
      exact h7 j y aA
     ·obtain⟨y,aA,rfl⟩:=si _ aj
      exact h8 j y aA
    |ref k c au ar=>
     refine .ref k c au λbU ai=>?_;rw[tR]at ai
     cases an:aF (hM s.heap id) k with
     |none=>simp[an]at ai|some p=>
      cases p with
      |box=>simp[an,nn]at ai|row=>simp[an,nn]at ai|bW lv=>exact ar lv (gb k _ an).1
    |top c=>exact .top c
   have back: ∀k o,aF (px [(id,.row true t n es)] (hM s.heap id)) k=some o->∃p,aF s.heap k=some p/\k≠id/\p.live=o.live/\o=nn [(id,.row true t n es)] p:=by
    intro k o ai;rw[tR]at ai
    cases an:aF (hM s.heap id) k with
    |none=>simp[an]at ai|some p=>
     obtain⟨aa,ae⟩:=gb k p an;refine⟨p,aa,ae,?_,?_⟩
     ·simp[an]at ai
      subst ai
      cases p<;>rfl
     ·simp[an]at ai
      exact ai.symm
   refine⟨β,λb=>ro b\/cF (β id)=some b,h.defers,by simpa[q8]using h.size,λi x hx=>?_,⟨λk o ai=>?_,λk bl o ct b ai ee au kW af hB=>?_,λb af=>?_,λb af=>?_⟩,
    h.ix.keep (λ_ _=>rfl) λ_ h=>.inl h,?_,h.base⟩
   ·obtain⟨y,aA,rfl⟩:=si _ hx
    exact view _ _ (h.slot i y aA)
   ·obtain⟨p,aa,ae,aw,rfl⟩:=back k o ai
    have av:=h.heap.dB k p aa
    cases av with
    |box br cs' b arr aE bc cJ ek=>
     refine .box br _ b arr aE bc (by rw[q8];exact cJ) λj x aj=>?_
     obtain⟨y,aA,rfl⟩:=si _ aj;exact view _ _ (ek j y aA)
    |row br b0 e2 Dt aE bc cJ=>exact .row br b0 e2 Dt aE bc λj x aj=>(cJ j x aj).keep (λ_ _=>rfl) λ_ h=>.inl h
    |gH br b0 e2 aE=>exact .gH br b0 e2 (aE.keep (λ_ _=>rfl) λ_ h=>.inl h)
    |bW bU b o aE bc cJ=>exact .bW bU b o aE bc (bU.mono _ _ _ _ (λx c h=>h.keep (λ_ _=>rfl) λ_ h=>.inl h) cJ)
   ·obtain⟨p,aa,_,aw,_⟩:=back k o ai
    obtain⟨ha,uU,_,H0,_⟩:=back bl ct ee;exact h.heap.inj k bl p ha b aa uU (aw.trans au) (H0.trans kW) af hB
   ·rintro⟨k,o,ai,au,bp⟩
    obtain⟨p,aa,ae,aw,_⟩:=back k o ai
    rcases af with af|af
    ·exact h.heap.fy b af ⟨k,p,aa,aw.trans au,bp⟩
    ·exact ae (h.heap.inj k id p _ b aa bq (aw.trans au) rfl bp af)
   ·rcases af with af|af
    ·exact h.heap.lt b af
    ·exact(ea.jB af).1
   ·have br:=h.trans
    refine⟨br.os,br.tape,br.output,br.size,br.frame,λb af=>?_,λb af=>.inl (br.hp b af),?_,λk an o ai=>?_,λk o ai=>?_,br.le⟩
    ·rcases af with af|af
     ·exact br.h9 b af
     ·rcases br.gG b ⟨id,_,bq,rfl,af⟩with hc|hc
      ·exact .inr (.inl hc)
      ·exact .inr (.inr hc)
    ·rintro b ⟨k,o,ai,au,bp⟩
     obtain⟨p,aa,_,aw,_⟩:=back k o ai;exact br.gG b ⟨k,p,aa,aw.trans au,bp⟩
    ·obtain⟨p,aa,_,_,_⟩:=back k o ai
     exact br.er k an p aa
    ·obtain⟨p,aa,_,_,_⟩:=back k o ai
     exact br.new k p aa
 ·exact b5.refl s
end Go.aH
namespace Go.aH
open Go
def tl(s:ByteArray)(pos:Nat):Bn:=⟨λ_ v o=>(∃b,v= .pointer (some ⟨b,0,none⟩))/\o= .stringIter s pos,λ_ _ _ _ _ h=>h,none,λ_ h=>by cases h⟩
section
variable {P:Program} {G:aV} {o:Oper} {s:aS}
theorem run_newObj(kg:Obj)(w:World):(newObj kg).run P w= .ok w.heap.size (w.alloc kg):=rfl
theorem W5{w:World}{r:Nat}{b:ByteArray}{p:Nat}(h:w.heap[r]? =some (.stringIter b p)):(getObj r).run P w= .ok (.stringIter b p) w:=by simp[getObj,Sem.run,h]
theorem zhu{w:World}{r:Nat}{b:ByteArray}{p:Nat}(kg:Obj)(h:w.heap[r]? =some (.stringIter b p)):(setObj r kg).run P w= .ok () {w with heap:=w.heap.setIfInBounds r kg}:=by simp[setObj,Sem.run,h]
theorem TV(t:TypeId)(x:Operand)(av:o.op= .range t x)(aJ:P.underlying t=some .string){b:ByteArray}(hx:aR G s x= .ad (.v (.string b)))(af:s.base<=s.next):
 eL P G o s ({s with heap:=(s.next,.bW (tl b 0))::s.heap,next:=s.next+1}.put o.dst (.ref s.next)):=by
 intro E a w ⟨β,ro,ah⟩ K Q hK;unfold Oper.wp;simp only[execOp,av,ah.ef hx,Sem.run_bind,Instr.range,run_underlying aJ,Result.andThen_ok,Sem.run_pure]
 have lB:aF s.heap s.next=none:=by
  cases ai:aF s.heap s.next with
  |none=>rfl|some p=>have:=ah.trans.new _ _ ai;omega
 have gS:=ah.new (w':=w.alloc (.stringIter b 0)) s.next lB af (zZv _) (.bW (tl b 0)) (.pointer (some ⟨w.heap.size,0,none⟩)) rfl rfl rfl (by simp) (λb af=>Go.RowKit.Below.heap_alloc w _ b af) (λb af=>by simp[cF]at af;omega) rfl
  (.bW _ w.heap.size (.stringIter b 0) (by rw[fl];rfl) (heap_alloc_new w _) ⟨⟨_,fl _ _ _⟩,rfl⟩)
 have an:=hK _ _ ⟨_,ro,gS.put o.dst (.ref s.next) (.pointer (some ⟨w.heap.size,0,none⟩)) (.ref _ _ (zYi _) λbU _=>(fl _ _ _).symm)⟩;rw[run_newObj];exact an
theorem TT(x:Operand)(av:o.op= .next x true){id:Nat}(hx:aR G s x= .ref id){b:ByteArray}{pos:Nat}(bq:aF s.heap id=some (.bW (tl b pos)))(ar:b.size<=pos):
 c8 P G o s (.tuple [.ad (.v (.bool false))]):=
 λE a w β ro ah=>by
  have eg:=ah.heap.dB id _ bq
  cases eg with
  |bW _ Ji kg aa ae aw=>
   obtain⟨⟨hL,hB⟩,rfl⟩:=aw;have dh:=ah.eval x;rw[hx]at dh;generalize he:a.eval x=c at dh
   cases dh with
   |ref _ _ _ hc=>
    have pe:=hc _ bq;rw[hB]at aa pe;simp only[cF,zYt]at aa;subst aa;refine⟨.tuple #[.bool false],?_,.tuple _ _ rfl λj y aj=>?_⟩
    ·have hn: ¬pos<b.size:=by omega
     rw[pe]at he;simp[execOp,av,he,Instr.next,W5 ae,hn]
    ·cases j with
     |zero=>simp at aj;subst aj;exact .fu rfl|succ j=>simp at aj
theorem TS(x:Operand)(av:o.op= .next x true){id:Nat}(hx:aR G s x= .ref id){b:ByteArray}{pos:Nat}(bq:aF s.heap id=some (.bW (tl b pos)))(ar:pos<b.size){c k:Nat}(hd:Utf8.decode b pos=(c,k)):
 eL P G o s ({s with heap:=eX s.heap id (.bW (tl b (pos+k)))}.put o.dst (.tuple [.ad (.v (.bool true)),.ad (.v (.int .i64 (pos:Int))),.ad (.v (.int .i32 (c:Int)))])):=by
 intro E a w ⟨β,ro,ah⟩ K Q hK;have eg:=ah.heap.dB id _ bq
 cases eg with
 |bW _ Ji kg aa ae aw=>
  obtain⟨⟨hL,hB⟩,rfl⟩:=aw;have dh:=ah.eval x;rw[hx]at dh;generalize he:a.eval x=rR at dh
  cases dh with
  |ref _ _ _ hc=>
   have pe:=hc _ bq;have tS:=aa;rw[hB]at aa pe;simp only[cF,zYt]at aa;subst aa;rw[pe]at he;unfold Oper.wp
   have cE:(execOp a.eval o).run P w= .ok (.value (.tuple #[.bool true,goInt pos,.int .i32 c])) {w with heap:=w.heap.setIfInBounds hL (.stringIter b (pos+k))}:=by
    simp[execOp,av,he,Instr.next,W5 ae,ar,hd,zhu _ ae]
   rw[cE];have bR:=(Array.getElem?_eq_some_iff.1 ae).1
   have hw:=ah.write (w':={w with heap:=w.heap.setIfInBounds hL (.stringIter b (pos+k))}) id _ (.bW (tl b (pos+k))) bq rfl rfl (.inr (.inr ⟨_,_,rfl,rfl⟩)) rfl rfl rfl (by simp) (λj aj b6=>by
    have:hL≠j:=λe=>b6 (by rw[hB,<-e];rfl)
    simp[Array.getElem?_setIfInBounds_ne this]) (.bW _ hL (.stringIter b (pos+k)) tS (by simp[bR]) ⟨⟨hL,hB⟩,rfl⟩)
   refine hK _ _ ⟨β,ro,hw.put o.dst _ _ (.tuple _ _ rfl λj y aj=>?_)⟩
   match j,aj with
   |0,aj=>simp at aj;subst aj;exact .fu rfl|1,aj=>simp at aj;subst aj;exact .fu rfl|2,aj=>simp at aj;subst aj;exact .fu rfl|j+3,aj=>simp at aj
end
end Go.aH
namespace Go.aH
open Go
section
variable {P:Program} {G:aV} {o:Oper} {s:aS} {E:Entry} {a:Act} {w w':World} {β:Nat->Value} {ro ro':Nat->Prop}
theorem dy.grow(h:dy E G s a w β ro)(sf:w'.os=w.os)(sg:w'.tape=w.tape)(jD:w'.output=w.output)(b4:w.heap.size<=w'.heap.size)(hw: ∀b,b<w.heap.size->w'.heap[b]? =w.heap[b]?)
 (cA: ∀b,ro b->ro' b)(gS: ∀b,ro' b->ro b\/(w.heap.size<=b/\b<w'.heap.size)):dy E G s a w' β ro':=by
 have an: ∀b,ro b->w'.heap[b]? =w.heap[b]? :=λb af=>hw b (h.heap.lt b af)
 refine⟨h.defers,h.size,λi x hx=>(h.slot i x hx).keep an cA (zZv _) (λ_ t cs ai=>⟨rfl,t,cs,ai⟩) (λ_ z t _ es ai=>⟨rfl,z,t,es,ai⟩) (λ_ bU ai=>⟨rfl,bU,ai⟩),
  ⟨λid kg ai=>(h.heap.dB id kg ai).keep an cA (zZv _) b4 rfl (λau b af=>hw b ((h.heap.dB id kg ai).jB au af)) (λ_ t cs ai=>⟨rfl,t,cs,ai⟩) (λ_ z t _ es ai=>⟨rfl,z,t,es,ai⟩) (λ_ bU ai=>⟨rfl,bU,ai⟩),h.heap.inj,λb af av=>?_,λb af=>?_⟩,
  h.ix.keep an cA,?_,h.base⟩
 ·rcases gS b af with aa|⟨aa,_⟩
  ·exact h.heap.fy b aa av
  ·obtain⟨id,kg,ai,au,hB⟩:=av
   have:=(h.heap.dB id kg ai).jB au hB;omega
 ·rcases gS b af with aa|⟨_,aa⟩
  ·exact zZw (h.heap.lt b aa) b4
  ·exact aa
 ·have t:=h.trans
  refine⟨sf.trans t.os,sg.trans t.tape,jD.trans t.output,zZx t.size b4,λb af hn=>(hw b (zZw af t.size)).trans (t.frame b af hn),λb af=>?_,λb af=>cA b (t.hp b af),t.gG,t.er,t.new,t.le⟩
  rcases gS b af with aa|⟨aa,_⟩
  ·exact t.h9 b aa
  ·exact .inr (.inr (zZx t.size aa))
theorem eL.N9{t:TypeId}{n:Nat}{es:List (List a7)}(a8:wH P G o s t n es):eL P G o s (s.put o.dst (.ad (.aq n es))):=by
 obtain⟨hn,h⟩:=a8;intro E a w ⟨β,ro,ah⟩ K Q hK;obtain⟨v,xs,w',cE,iS,dX,jo,fW⟩:=h E a w β ro ah;unfold Oper.wp;rw[cE];have hw: ∀b,b<w.heap.size->w'.heap[b]? =w.heap[b]? :=λb af=>dX.block b af (by simp)
 have ea:l2 w' t n v es.length xs:=.HE iS
 have ai:=ah.grow (ro':=λb=>ro b\/cF v=some b) dX.os dX.tape dX.output dX.size hw (λ_ h=>.inl h) (λb af=>by
  rcases af with h|h
  ·exact .inl h
  ·exact .inr ⟨jo b h,(ea.jB h).1⟩)
 exact hK _ _ ⟨β,_,ai.put o.dst _ _ (.ad _ _ (ea.He hn (λj x aj=>(fW j x aj).keep (λb af=>hw b (ah.heap.lt b af)) λ_ h=>.inl h) λb af=>.inr af))⟩
def lJ(ks:List Nat)(l:List aC):List aC:=l.mapIdx λi x=>if ks.contains i then x else .top
theorem EY(ks:List Nat)(l:List aC)(i:Nat):(lJ ks l)[i]? =(l[i]?).map λx=>if ks.contains i then x else .top:=by
 simp[lJ]
theorem dy.mask(h:dy E G s a w β ro)(ks:List Nat):dy E G {s with dn:=lJ ks s.dn} a w β ro:=by
 refine⟨h.defers,by simp[lJ,h.size],λi x hx=>?_,h.heap,h.ix,h.trans,h.base⟩
 simp only[EY]at hx
 cases hi:s.dn[i]? with
 |none=>simp[hi]at hx|some y=>
  simp only[hi,zXh,zYt]at hx
  split at hx
  ·subst hx;exact h.slot i y hi
  ·subst hx;exact .top _
def DStep(P:Program)(G:aV)(ops:Array Oper)(dD:aS)(T:List aC)(o:Oper)(v:aC):Prop:=
 ∀s:aS,s.heap=dD.heap->s.next=dD.next->s.base=dD.base->s.dn.length=T.length->(∀t∈o.looksAt ops,s.dn[t]? =T[t]?)->
  (fh ops s o=some true/\eL P G o s (s.put o.dst v))\/(fh ops s o=some false/\v= .tuple [])
theorem Oa{ks:List Nat}{l dF:List aC}(hlen:l.length=dF.length)(h: ∀t∈ks,l[t]? =dF[t]?):lJ ks l=lJ ks dF:=by
 apply List.ext_getElem?;intro i;rw[EY,EY]
 by_cases hi:i∈ks
 ·rw[h i hi]
 ·have hc:ks.contains i=false:=by simpa using hi
  simp only[hc]
  by_cases au:i<l.length
  ·rw[zZa au,zZa (by omega)];rfl
  ·rw[zYl (by omega),zYl (by omega)]
theorem Ob{ops:Array Oper}{ks:List Nat}(an: ∀j b,o.guard=some (j,b)->∀d,ov ops j=some d->d∈ks):fh ops {s with dn:=lJ ks s.dn} o=fh ops s o:=by
 unfold fh
 cases ai:o.guard with
 |none=>rfl|some Oc=>
  obtain⟨j,b⟩:=Oc;simp only
  cases hd:ov ops j with
  |none=>rfl|some d=>
   have hm:ks.contains d=true:=by simpa using an j b ai d hd
   simp only[EY]
   cases ao:s.dn[d]? with
   |none=>simp|some x=>simp only[zXh,hm,if_true]
theorem Od{ops:Array Oper}(j:Nat)(b:Bool)(ai:o.guard=some (j,b))(d:Nat)(hd:ov ops j=some d):d∈o.looksAt ops:=by
 unfold ov at hd;simp[Oper.looksAt,ai,hd]
theorem DStep.val{ops:Array Oper}{dD:aS}{T:List aC}{v:aC}(ai:fh ops ⟨lJ (o.looksAt ops) T,dD.heap,dD.next,dD.base⟩ o=some true)(az:uW P G o ⟨lJ (o.looksAt ops) T,dD.heap,dD.next,dD.base⟩=some v):DStep P G ops dD T o v:=by
 intro s aa ae aw hlen ck;have hm:=Oa hlen ck;have e1:({s with dn:=lJ (o.looksAt ops) s.dn}:aS)=⟨lJ (o.looksAt ops) T,dD.heap,dD.next,dD.base⟩:=by rw[hm,<-aa,<-ae,<-aw]
 refine .inl ⟨by rw[<-Ob (ks:=o.looksAt ops) Od,e1];exact ai,c8.step λE a w β ro ah=>?_⟩
 have dW:=ah.mask (o.looksAt ops);rw[e1]at dW;have:=Hd az E a w β ro dW;simpa only[aa,ae]using this
theorem zhv{ks:List Nat}{y:Operand}(aA: ∀t,y= .tmp t->t∈ks):aR G {s with dn:=lJ ks s.dn} y=aR G s y:=by
 cases y with
 |tmp t=>
  have hm:ks.contains t=true:=by simpa using aA t rfl
  simp only[aR,zZ8,EY]
  cases ao:s.dn[t]? with
  |none=>rfl|some x=>simp only[zXh,hm,if_true]
 |_=>rfl
theorem DStep.of{ops:Array Oper}{dD:aS}{T:List aC}{v:aC}(ai:fh ops ⟨lJ (o.looksAt ops) T,dD.heap,dD.next,dD.base⟩ o=some true)
 (h: ∀s:aS,s.heap=dD.heap->s.next=dD.next->s.base=dD.base->(∀y:Operand,(∀t,y= .tmp t->t∈o.looksAt ops)->aR G s y=aR G ⟨lJ (o.looksAt ops) T,dD.heap,dD.next,dD.base⟩ y)->eL P G o s (s.put o.dst v)):DStep P G ops dD T o v:=by
 intro s aa ae aw hlen ck;have hm:=Oa hlen ck;have e1:({s with dn:=lJ (o.looksAt ops) s.dn}:aS)=⟨lJ (o.looksAt ops) T,dD.heap,dD.next,dD.base⟩:=by rw[hm,<-aa,<-ae,<-aw]
 refine .inl ⟨by rw[<-Ob (ks:=o.looksAt ops) Od,e1];exact ai,h s aa ae aw λy aA=>?_⟩
 rw[<-e1];exact(zhv aA).symm
end
end Go.aH
namespace Go.aH
open Go
def BA(l:List Oper)(xe:List aC)(tT:List aC)(E:Nat->Prop)(T:List aC):Prop:=
 T.length=tT.length/\∀t,t<tT.length->((∀j o,l[j]? =some o->E j->o.dst≠some t)->T[t]? =tT[t]?)/\(∀j o,l[j]? =some o->E j->o.dst=some t->T[t]? =xe[j]?)
theorem BA.same{l:List Oper}{xe tT T tB:List aC}{E BB:Nat->Prop}(h:BA l xe tT E T)(h':BA l xe tT BB tB)(t:Nat)(he: ∀j o,l[j]? =some o->o.dst=some t->(E j↔BB j)):T[t]? =tB[t]? :=by
 by_cases aJ:t<tT.length
 ·by_cases hx: ∃j o,l[j]? =some o/\E j/\o.dst=some t
  ·obtain⟨j,o,aa,ae,aw⟩:=hx
   rw[(h.2 t aJ).2 j o aa ae aw,(h'.2 t aJ).2 j o aa ((he j o aa aw).1 ae) aw]
  ·have aE: ∀j o,l[j]? =some o->E j->o.dst≠some t:=λj o aa ae aw=>hx ⟨j,o,aa,ae,aw⟩
   have bc: ∀j o,l[j]? =some o->BB j->o.dst≠some t:=λj o aa ae aw=>hx ⟨j,o,aa,(he j o aa aw).2 ae,aw⟩;rw[(h.2 t aJ).1 aE,(h'.2 t aJ).1 bc]
 ·rw[zYl (by have:=h.1;omega),zYl (by have:=h'.1;omega)]
def BC(T:List aC)(dst:Option Nat)(v:aC):List aC:=
 match dst with
 |some d=>T.set d v|none=>T
theorem zhw(T:List aC)(dst:Option Nat)(v:aC):(BC T dst v).length=T.length:=by
 cases dst<;>simp[BC]
theorem BA.put{l:List Oper}{xe tT T:List aC}{E:Nat->Prop}(h:BA l xe tT E T){i:Nat}{o:Oper}{v:aC}(hi:l[i]? =some o)(az:xe[i]? =some v)
 (hd: ∀j p,l[j]? =some p->E j->p.dst≠none->p.dst≠o.dst){BB:Nat->Prop}(hR: ∀j,BB j↔E j\/j=i):BA l xe tT BB (BC T o.dst v):=by
 refine⟨by rw[zhw];exact h.1,λt aJ=>⟨λhn=>?_,λj p aj Oe ar=>?_⟩⟩
 ·have aa:=(h.2 t aJ).1 λj p aj Oe=>hn j p aj ((hR j).2 (.inl Oe))
  cases tU:o.dst with
  |none=>exact aa|some d=>
   have b6:d≠t:=λe=>hn i o hi ((hR i).2 (.inr rfl)) (by rw[tU,e])
   simp only[BC];rw[zXg b6];exact aa
 ·rcases (hR j).1 Oe with aa|aa
  ·have ae:=(h.2 t aJ).2 j p aj aa ar
   cases tU:o.dst with
   |none=>exact ae|some d=>
    have b6:d≠t:=λe=>hd j p aj aa (by rw[ar];simp) (by rw[ar,tU,e])
    simp only[BC];rw[zXg b6];exact ae
  ·subst aa
   rw[hi]at aj;simp only[zYt]at aj;subst aj;rw[ar];simp only[BC];rw[List.getElem?_set_self (by have:=h.1;omega),az]
section
variable {P:Program} {G:aV} {dD:aS}
abbrev Of(ops:Array Oper)(dD:aS)(T:List aC)(o:Oper):aS:=⟨lJ (o.looksAt ops) T,dD.heap,dD.next,dD.base⟩
theorem DStep.row{ops:Array Oper}{T:List aC}{o:Oper}{t n:Nat}{es:List (List a7)}(ai:fh ops (Of ops dD T o) o=some true)(h:wH P G o (Of ops dD T o) t n es):DStep P G ops dD T o (.ad (.aq n es)):=by
 intro s aa ae aw hlen ck;have hm:=Oa hlen ck;have e1:({s with dn:=lJ (o.looksAt ops) s.dn}:aS)=Of ops dD T o:=by rw[hm,aa,ae,aw]
 refine .inl ⟨by rw[<-Ob (ks:=o.looksAt ops) Od,e1];exact ai,eL.N9 (t:=t) ⟨h.1,λE a w β ro ah=>?_⟩⟩
 have dW:=ah.mask (o.looksAt ops);rw[e1]at dW;exact h.2 E a w β ro dW
end
end Go.aH
namespace Go.aH
open Go
section
variable {P:Program} {G:aV} {o:Oper} {s:aS}
def wu(P:Program)(t:TypeId):Option (TypeId × Nat × List Value):=
 match P.underlying t with
 |some (.slice e)=>match P.info? e,zeroCells P e with
  |some i,some zs=>if zs.all Value.oneCell'/\zs.length=i.size/\0<i.size then some (e,i.size,zs)else none
  |_,_=>none
 |_=>none
def tV(P:Program)(G:aV)(s:aS)(t:TypeId)(len:Nat)(parts:List (Nat × Operand)):Option (TypeId × Nat × List (List a7)):=
 match wu P t with
 |some (e,n,zs)=>
  if len=0 then(if parts.isEmpty then some (e,n,[])else none)
  else if len*n<=16777216/\(parts.map λp=>(p.1,aR G s p.2)).all (λp=>(dc p.2).all (fp s.heap))then
   match lr (λi=>some (i*n,n)) ((zZz len (zs.map λz=>aC.ad (.v z))).flatten) (parts.map λp=>(p.1,aR G s p.2))with
   |some ds=>match jU ds with
    |some rs=>some (e,n,chunk n len rs)|none=>none
   |none=>none
  else none
 |none=>none
theorem Dz{t:TypeId}{len:Nat}{parts:Array (Nat × Operand)}(av:o.op= .buildSlice t len parts){e n:Nat}{es:List (List a7)}(h:tV P G s t len parts.toList=some (e,n,es)):wH P G o s e n es:=by
 unfold tV at h
 split at h
 ·rename_i aD b0 zs aJ
  unfold wu at aJ
  split at aJ
  ·rename_i bc hu
   split at aJ
   ·rename_i i zhx hi aW
    split at aJ
    ·rename_i hc
     simp only[zYt,zXt]at aJ;obtain⟨rfl,rfl,rfl⟩:=aJ
     split at h
     ·rename_i hlen
      subst hlen
      split at h
      ·rename_i ar
       simp only[zYt,zXt]at h;obtain⟨rfl,rfl,rfl⟩:=h;refine⟨by simp,λE a w β ro ah=>⟨.slice (some ⟨w.heap.size,0,none⟩) 0 0,[],w.alloc (.cells #[] bc),?_,?_,World.grownBy_alloc w _ none,λb af=>by simp[cF]at af,by simp⟩⟩
       ·have iK:parts= #[]:=by
         apply zXi;simpa using ar
        subst iK;simp[execOp,av,Instr.buildSlice,run_underlying hu,sizeOf,typeInfo,hi,Instr.fill,newRow,Sem.run_bind,Array.range_zero']
       ·exact World.ownsRow_lit w #[] 0 (zXx _) (zXx _) (by simp)
      ·cases h
     ·rename_i hlen
      split at h
      ·rename_i N1
       split at h
       ·rename_i ds hf
        split at h
        ·rename_i rs hZ
         simp only[zYt,zXt]at h;obtain⟨rfl,rfl,rfl⟩:=h;have W6:0<len*i.size:=Nat.mul_pos (Nat.pos_of_ne_zero hlen) hc.2.2;exact zhk t len parts av hu (by simp[hi]) aW hc.1 hc.2.1 ⟨W6,N1.1⟩ rfl N1.2 hf hZ
        ·cases h
       ·cases h
      ·cases h
    ·cases aJ
   ·cases aJ
  ·cases aJ
 ·cases h
end
theorem zhy{k:Nat}(h:k+1<=9223372036854775807):IntKind.i64.wrap ((k:Int)+1)=((k+1:Nat):Int):=by
 rw[iz _ (by omega) (by omega)]
 rfl
end Go.aH
namespace Go.aH
open Go
theorem b5.zhz{s s':aS}(k e n:Nat)(an:s.dn[k]? =some (.ad (.v (.slice none 0 0))))(af:s.base<=s.next)
 (h:({s with dn:=s.dn.set k (.aq s.next),heap:=(s.next,.row false e n [])::s.heap,next:=s.next+1}:aS)=s'):b5 s s':=by
 subst h;intro E G a w ⟨β,ro,ah⟩
 have lB:aF s.heap s.next=none:=by
  cases ai:aF s.heap s.next with
  |none=>rfl|some p=>have:=ah.trans.new _ _ ai;omega
 have rT:=bN.val (ah.slot k _ an)
 have gS:=ah.new (w':=w) s.next lB af (zZv _) (.row false e n []) (.slice none 0 0) rfl rfl rfl (zZv _) (λ_ _=>rfl) (λc hc=>by simp[cF]at hc) rfl
  (.row e n [] [] (by rw[fl];exact⟨by simp,.inl ⟨⟨none,rfl,λ_ h=>(by cases h)⟩,rfl⟩⟩) (by simp) (by simp))
 refine⟨_,ro,gS.defers,by simpa using gS.size,λi y aA=>?_,gS.heap,gS.ix,gS.trans,gS.base⟩
 rw[List.getElem?_set]at aA
 split at aA
 ·rename_i aE
  subst aE
  split at aA
  ·simp only[zYt]at aA
   subst aA;refine .aq _ _ (zYi _) λz br b0 e2 _=>?_;rw[rT];exact(fl _ _ _).symm
  ·cases aA
 ·exact gS.slot i y aA
end Go.aH
namespace Go.aH
open Go
def zi(σ:bK):aC->Option a7
 | .ad x=>some x| .aq id=>match aF σ id with
  |some (.row _ _ n es)=>some (.aq n es)|_=>none
 | .ref id=>match aF σ id with
  |some (.bW bU)=>bU.view|_=>none
 |_=>none
def EZ(σ:bK):List aC->Option (List a7)
 |[]=>some []|x::r=>match zi σ x,EZ σ r with
  |some y,some l=>some (y::l)|_,_=>none
mutual
def mj(σ:bK):aC->aC
 | .aq id=>match aF σ id with
  |some (.row _ _ n es)=>.ad (.aq n es)|_=>.aq id
 | .ptr id off=>match aF σ id with
  |some (.box _ cs)=>(match EZ σ (cs.drop off)with
   |some l=>.ad (.ptr l)
   |none=>.ptr id off)
  |_=>.ptr id off
 | .agg cs=>.agg (k6 σ cs)| .tuple cs=>.tuple (k6 σ cs)| .fn f p q=>.fn f (k6 σ p) (k6 σ q)| .ad x=>.ad x| .du id i off=>.du id i off| .eb id n=>.eb id n| .ref id=>match aF σ id with
  |some (.bW bU)=>(match bU.view with
   |some x=>.ad x
   |none=>.ref id)
  |_=>.ref id
 | .top=>.top
def k6(σ:bK):List aC->List aC
 |[]=>[]|x::r=>mj σ x::k6 σ r
end
theorem BD(σ:bK): ∀(l:List aC),(k6 σ l).length=l.length
 |[]=>rfl|x::r=>by simp[k6,BD σ r]
theorem BE(σ:bK): ∀{l:List aC} {j:Nat} {x:aC},(k6 σ l)[j]? =some x->∃y,l[j]? =some y/\x=mj σ y
 |[],j,x,h=>by simp[k6]at h|y::r,j,x,h=>by
  cases j with
  |zero=>simp[k6]at h;exact⟨y,by simp,h.symm⟩|succ j=>simp[k6]at h;simpa using BE σ h
theorem W7(σ:bK): ∀{l:List aC} {m:List a7},EZ σ l=some m->∀{j:Nat} {x:a7},m[j]? =some x->∃y,l[j]? =some y/\zi σ y=some x
 |[],m,h,j,x,aj=>by simp[EZ]at h;subst h;simp at aj|y::r,m,h,j,x,aj=>by
  simp only[EZ]at h
  split at h
  ·rename_i z l aa ae
   simp only[zYt]at h;subst h
   cases j with
   |zero=>simp at aj;subst aj;exact⟨y,rfl,aa⟩|succ j=>simp at aj;simpa using W7 σ ae aj
  ·cases h
abbrev BF(ro:Nat->Prop)(σ:bK)(β:Nat->Value):Nat->Prop:=λb=>ro b\/Own σ β b
theorem W8{w:World}{ro:Nat->Prop}{σ:bK}{β:Nat->Value}{N id:Nat}(a8:hA w ro σ β N){z:Bool}{t:TypeId}{n:Nat}{es:List (List a7)}(ai:aF σ id=some (.row z t n es)):dq w (BF ro σ β) (.aq n es) (β id):=by
 have av:=a8.dB id _ ai
 cases av with
 |row t n es xs aa ae aw=>exact aa.He ae (λj x aj=>(aw j x aj).keep (λ_ _=>rfl) λ_ h=>.inl h) λb af=>.inr ⟨id,_,ai,rfl,af⟩
 |gH t n es aa=>exact aa.keep (λ_ _=>rfl) λ_ h=>.inl h
theorem W9{w:World}{ro:Nat->Prop}{σ:bK}{β:Nat->Value}{N id:Nat}(a8:hA w ro σ β N){bU:Bn}(ai:aF σ id=some (.bW bU)){ad:a7}(az:bU.view=some ad):dq w (BF ro σ β) ad (β id):=by
 have av:=a8.dB id _ ai
 cases av with
 |bW _ b o aa ae aw=>exact bU.Wb ad az w ro _ _ o b aw aa ae (λ_ h=>.inl h) (.inr ⟨id,_,ai,rfl,aa⟩)
theorem zhA{w:World}{ro:Nat->Prop}{σ:bK}{β:Nat->Value}{N:Nat}(a8:hA w ro σ β N){x:aC}{c:Value}{y:a7}(h:bN w ro σ β N x c)(aA:zi σ x=some y):dq w (BF ro σ β) y c:=by
 cases h with
 |ad x c hx=>
  simp only[zi,zYt]at aA;subst aA;exact hx.keep (λ_ _=>rfl) λ_ h=>.inl h
 |aq id c au ar=>
  simp only[zi]at aA
  split at aA
  ·rename_i z t n es ai
   simp only[zYt]at aA;subst aA;rw[ar z t n es ai];exact W8 a8 ai
  ·cases aA
 |ref id c au ar=>
  simp only[zi]at aA
  split at aA
  ·rename_i bU ai
   rw[ar bU ai];exact W9 a8 ai aA
  ·cases aA
 |_=>cases aA
theorem Xa{w:World}{ro:Nat->Prop}{σ:bK}{β:Nat->Value}{N:Nat}(a8:hA w ro σ β N){x:aC}{c:Value}(h:bN w ro σ β N x c):bN w (BF ro σ β) σ β N (mj σ x) c:=by
 induction h with
 |aq id c au ar=>
  simp only[mj]
  split
  ·rename_i z t n es ai
   rw[ar z t n es ai];exact .ad _ _ (W8 a8 ai)
  ·exact .aq id c au ar
 |ptr id off c au ar=>
  simp only[mj]
  split
  ·rename_i t cs ai
   split
   ·rename_i l Og
    obtain⟨b,af,rfl⟩:=ar t cs ai;have av:=a8.dB id _ ai
    cases av with
    |box t cs hL arr aE bc cJ ek=>
     rw[af]at aE;simp only[Value.pointer.injEq,zYt,Addr.mk.injEq,and_true]at aE;subst aE
     have at_: ∀j x,l[j]? =some x->∃y,cs[off+j]? =some y/\zi σ y=some x:=λj x aj=>by
      obtain⟨y,aa,ae⟩:=W7 σ Og aj;rw[zYn]at aa;exact⟨y,aa,ae⟩
     refine .ad _ _ (.ptr l _ (λj=>arr.getD (off+j) undef) (λj x aj=>?_) λj x aj=>?_)
     ·obtain⟨y,aa,_⟩:=at_ j x aj
      refine⟨.inr ⟨id,_,ai,rfl,by rw[af];rfl⟩,?_⟩
      have bR:off+j<arr.size:=by rw[cJ];exact(zZ1.1 aa).1
      rw[addLit,cell_of_row w b (off+j) arr t (0,0) bc];simp[bR]
     ·obtain⟨y,aa,ae⟩:=at_ j x aj
      exact zhA a8 (ek _ y aa) ae
   ·exact .ptr id off c au ar
  ·exact .ptr id off c au ar
 |ad x c h=>exact .ad x c (h.keep (λ_ _=>rfl) λ_ h=>.inl h)
 |agg cs c aa _ bb=>
  refine .agg _ c (by rw[BD];exact aa) λj x aj=>?_
  obtain⟨y,aA,rfl⟩:=BE σ aj;exact bb j y aA
 |tuple cs c aa _ bb=>
  refine .tuple _ c (by rw[BD];exact aa) λj x aj=>?_
  obtain⟨y,aA,rfl⟩:=BE σ aj;exact bb j y aA
 |du id i off c aa ae=>exact .du id i off c aa ae|eb id n c aa ae=>exact .eb id n c aa ae|fn f p q c d aa ae _ _ h7 h8=>
  refine .fn f _ _ c d (by rw[BD];exact aa) (by rw[BD];exact ae) (λj x aj=>?_) (λj x aj=>?_)
  ·obtain⟨y,aA,rfl⟩:=BE σ aj
   exact h7 j y aA
  ·obtain⟨y,aA,rfl⟩:=BE σ aj
   exact h8 j y aA
 |ref id c au ar=>
  simp only[mj]
  split
  ·rename_i bU ai
   split
   ·rename_i ad az
    rw[ar bU ai];exact .ad _ _ (W9 a8 ai az)
   ·exact .ref id c au ar
  ·exact .ref id c au ar
 |top c=>exact .top c
mutual
def n5:aC->Bool
 | .ad (.v _)=>true| .agg cs=>sn cs| .tuple cs=>sn cs|_=>false
def sn:List aC->Bool
 |[]=>true|x::r=>n5 x&&sn r
end
theorem Jj: ∀{cs:List aC},sn cs=true->∀{j:Nat} {x:aC},cs[j]? =some x->n5 x=true
 |[],_,j,x,h=>by simp at h|y::r,af,j,x,h=>by
  simp only[sn,Bool.and_eq_true]at af
  cases j with
  |zero=>simp at h;subst h;exact af.1|succ j=>simp at h;exact Jj af.2 h
theorem Xb{w w':World}{ro ro':Nat->Prop}{σ cu:bK}{β xb:Nat->Value}{N M:Nat}{x:aC}{c:Value}(h:bN w ro σ β N x c)(ar:n5 x=true):bN w' ro' cu xb M x c:=by
 induction h with
 |ad x c h=>
  cases h with
  |v _ hx=>exact .ad _ _ (.v _ hx)|ptr=>simp[n5]at ar|aq=>simp[n5]at ar|mp=>simp[n5]at ar|eE=>simp[n5]at ar|li=>simp[n5]at ar
 |agg cs c aa _ bb=>
  simp only[n5]at ar;exact .agg cs c aa λj x aj=>bb j x aj (Jj ar aj)
 |tuple cs c aa _ bb=>
  simp only[n5]at ar;exact .tuple cs c aa λj x aj=>bb j x aj (Jj ar aj)
 |_=>simp[n5]at ar
section
variable {P:Program} {G:aV} {s:aS}
theorem TF{o:Oper}{f:FuncId}{p q:Array Operand}(av:o.op= .makeFunc (.func f) p q):c8 P G o s (.fn (.func f) (p.toList.map (aR G s)) (q.toList.map (aR G s))):=
 λ_ a w β ro ah=>by
  refine⟨.func (.func f) (p.map a.eval) (q.map a.eval),by simp[execOp,av,Instr.makeFunc],.fn _ _ _ _ _ (by simp) (by simp) (λj x aj=>?_) (λj x aj=>?_)⟩<;>
  ·rw[zYo]at aj
   rw[Array.getD_eq_getD_getElem?,Array.getElem?_map];simp only[Array.getElem?_toList]at aj;obtain⟨z,aW,rfl⟩:=Option.map_eq_some_iff.1 aj;simp only[aW,zXh,zXf];exact ah.eval z
end
end Go.aH
namespace Go.aH
open Go
def E0:a7->a7
 | .aq _ []=>.v (.slice none 0 0)| .li _ []=>.v (.slice none 0 0)|x=>x
theorem Xc{w:World}{ro:Nat->Prop}{x:a7}{v:Value}(h:E0 x= .v v)(az:v.oneCell'=true):dq w ro x v:=by
 unfold E0 at h
 split at h
 ·rename_i n
  simp only[a7.v.injEq]at h;subst h;exact .aq n [] none 0 (λ_=>undef) (zZv _) (zXx _) (by simp) (by simp) (by simp)
 ·rename_i i
  simp only[a7.v.injEq]at h;subst h;exact .li i [] _ (.aq (dE i) [] none 0 (λ_=>undef) (zZv _) (zXx _) (by simp) (by simp) (by simp))
 ·subst h
  exact .v _ az
section
variable {P:Program} {G:aV} {o:Oper} {s:aS}
theorem zhB{α:Type}(C:α->List a7)(d:α)(m c:Nat){t:TypeId}{x y:Operand}(av:o.op= .makeSlice t x y){e n bytes:Nat}(aJ:rW P t=some (e,n,bytes)){zs:List Value}(aW:zeroCells P e=some zs)(sk:zs.all Value.oneCell'=true)
 (hd:zs.map a7.v=(C d).map E0)(hx:aR G s x=AF (m:Int))(aA:aR G s y=AF (c:Int))(b4:m<=c/\c<=maxLen/\bytes*c<=281474976710656):
 wH P G o s e n ((zZz m d).map C):=by
 obtain⟨i,z,hu,hi,EU,iF,kH,jk,hn⟩:=tD aJ;obtain⟨h5,_,qd,Bx,il,m7⟩:=Br (P:=P) aW default
 have EV:z.cells=zs.toArray:=by
  rw[hi]at il;simp only[zYt]at il;subst il;rw[EU]at m7;simp only[zYt]at m7;subst m7;exact qd
 have mi:zs.length=n:=by rw[<-jk,EV];simp
 have nk:(C d).length=n:=by rw[<-mi];have:=congrArg List.length hd;simpa using this.symm
 have q3: ∀q∈(zZz m d).map C,q.length=n:=by
  intro q aB;rw[zXs]at aB;obtain⟨u,hu,rfl⟩:=aB;rw[zY9]at hu;rw[hu.2];exact nk
 refine⟨q3,λE a w β ro ah=>?_⟩
 have zhC:(c:Int)<=9223372036854775807:=by
  have h:=b4.2.1;simp only[maxLen]at h;omega
 have EW:(i.bytes:Int)*(c:Int)<=281474976710656:=by
  have h:((i.bytes*c:Nat):Int)<=281474976710656:=by rw[kH];have:=b4.2.2;omega
  rwa[Int.natCast_mul]at h
 have cE:=run_make (P:=P) w t e i z hu hi EU .i64 .i64 (m:Int) (c:Int) (by omega) (by have:=b4.1;omega) EW zhC
 simp only[Int.toNat_natCast,iF]at cE;refine⟨.slice (some ⟨w.heap.size,0,none⟩) m c,(madeCells z.cells (c*n)).toList.take (m*n),_,by simp only[execOp,av,ah.ef hx,ah.ef aA,Sem.run_bind,cE,Result.andThen_ok,Sem.run_pure],⟨?_,.inr ⟨w.heap.size,c,madeCells z.cells (c*n),by rw[zXe,zXo],zXx _,heap_alloc_new w _,by rw[zXe,zXo];exact b4.1,b4.2.1,size_madeCells _ _,by rw[zXe,zXo]⟩⟩,World.grownBy_alloc w _ none,λb bp=>?_,λj x aj=>?_⟩
 ·rw[List.length_take,Array.length_toList,size_madeCells,zXe,zXo,Nat.min_eq_left (zYb _ b4.1)]
 ·simp only[cF]at bp
  split at bp
  ·cases bp
  ·simp at bp;omega
 ·have dv:j<m*n:=by
   have:=(zZ1.1 aj).1
   rwa[jZ q3,zXe,zXo]at this
  have hm:j=(j/ n)*n+j%n:=by rw[zXn];exact(zXm j n).symm
  have nj:j%n<n:=zXl _ hn;have zhD:j/ n<m:=by rw[zXk hn];exact dv
  rw[hm,q2 q3 (i:=j/ n) (e:=C d) (by simp[zhD]) (j%n) nj]at aj
  have aw:j%n<zs.length:=by omega
  have EI:j<c*n:=zZw dv (zYb _ b4.1)
  have aE:((madeCells z.cells (c*n)).toList.take (m*n)).getD j undef=zs[j%n]:=by
   simp[zZ8,dv,madeCells,EV,EI,mi,zZa aw]
  rw[aE];have wK:=congrArg (·[j%n]?) hd;simp only[zYo,aj,zZa aw,zXh,zYt]at wK;refine Xc wK.symm ?_;rw[zZ2]at sk;exact sk _ (zXj aw)
end
section
variable {P:Program} {G:aV} {o:Oper} {s:aS}
theorem Xd(j:Nat){t:TypeId}{x i:Operand}(av:o.op= .index t x i){len e:Nat}(hu:P.underlying t=some (.array len e))(hsc:scalar P e=true)(b4:(P.info? e).map (·.size)=some 1)(hi:aR G s i=AF (j:Int)){cs:List aC}(hx:aR G s x= .agg cs){v:aC}(az:cs[j]? =some v)(aj:j<len):c8 P G o s v:=
 λ_ a w β ro ah=>by
  have h:=ah.eval x;rw[hx]at h;generalize he:a.eval x=c at h
  cases h with
  |agg _ c ao hc=>
   have bR:j<c.size:=by have:=(zZ1.1 az).1;omega
   have yh:(sizeOf e).run P w= .ok 1 w:=by
    cases hi:P.info? e with
    |none=>simp[hi]at b4|some i=>simp[hi]at b4;simp[sizeOf,typeInfo,hi,b4]
   refine⟨c[j],?_,by simpa[bR]using hc _ v az⟩
   simp[execOp,av,he,ah.ef hi,Instr.index,asIntOf,run_underlying hu,yh,part,AB hsc,bR,aj]
end
section
variable {P:Program} {G:aV}
theorem Xe{α:Type}{a:Array α}{x:α}(h:a.toList=[x]):a= #[x]:=by apply zXi;simpa using h
theorem E1{α:Type}{a:Array α}{x y:α}(h:a.toList=[x,y]):a= #[x,y]:=by apply zXi;simpa using h
end
end Go.aH
namespace Go.aH
open Go
section
variable {P:Program} {G:aV} {Q:Exit->aS->Prop} {s s':aS}
def Z(n:Nat)(l:List (Nat × aC))(h:bK)(m:Nat):aS:=⟨qi 0 (n%2000) l,h,m,n/ 2000⟩
def Xf:bK->List Nat
 |[]=>[]|(k,_)::r=>k::Xf r
structure Oh where
 dn:List (Nat × aC)
 heap:bK
 len:Nat
 base:Nat
def Jk(aq:List aC):List (Nat × aC)->List (Nat × aC)
 |[]=>[]|(k,_)::r=>(k,aq.getD k .top)::Jk aq r
def Oi(l:List (Nat × aC))(h:bK)(s:aS):Oh:=⟨Jk s.dn l,Bu s.heap (Xf h),s.dn.length,s.base⟩
abbrev Xg(l:List (Nat × aC))(h:bK)(n:Nat):Oh:=⟨l,h,n%2000,n/ 2000⟩
theorem Jl: ∀{n j:Nat} {l:List (Nat × aC)} {i:Nat} {x:aC},(qi j n l)[i]? =some x->x= .top\/(j+i,x)∈l
 |0,_,_,i,x,h=>by simp[qi]at h|n+1,j,[],i,x,h=>by
  cases i with
  |zero=>simp[qi]at h;exact .inl h.symm|succ i=>
   simp only[qi,zXd]at h
   rcases Jl h with h|h
   ·exact .inl h
   ·cases h
 |n+1,j,(k,v)::r,i,x,h=>by
  simp only[qi]at h
  split at h
  ·rename_i e
   subst e
   cases i with
   |zero=>simp at h;subst h;exact .inr (by simp)|succ i=>
    simp only[zXd]at h
    rcases Jl h with h|h
    ·exact .inl h
    ·exact .inr (List.mem_cons_of_mem _ (by rw[<-zYw,zXc];exact h))
  ·cases i with
   |zero=>simp at h;exact .inl h.symm|succ i=>
    simp only[zXd]at h
    rcases Jl h with h|h
    ·exact .inl h
    ·exact .inr (by rw[<-zYw,zXc];exact h)
theorem Oj: ∀(n j:Nat) (l:List (Nat × aC)),(qi j n l).length=n
 |0,_,_=>by simp[qi]|n+1,j,[]=>by simp[qi,Oj n]|n+1,j,(k,v)::r=>by
  simp only[qi]
  split<;>simp[Oj n]
theorem Xh{aq:List aC}: ∀{l:List (Nat × aC)},Jk aq l=l->∀{k:Nat} {v:aC},(k,v)∈l->aq.getD k .top=v
 |[],_,k,v,h=>by cases h
 |(j,u)::r,he,k,v,h=>by
  simp only[Jk,List.cons.injEq,zXt,true_and]at he
  rcases zZf.1 h with h|h
  ·cases h;exact he.1
  ·exact Xh he.2 h
theorem zhE{n:Nat}{l:List (Nat × aC)}{h:bK}{m:Nat}(he:Oi l h s=Xg l h n)(hm:s.next<=m):b5 s (Z n l h m):=by
 simp only[Oi,Oh.mk.injEq]at he;obtain⟨aa,ae,aw,aN⟩:=he;intro E G a w ⟨β,ro,ah⟩;have gb: ∀id o,aF h id=some o->aF s.heap id=some o:=by rw[<-ae];exact NR s.heap _
 have grow: ∀x c,bN w ro s.heap β s.next x c->bN w ro h β m x c:=λx c hx=>(hx.sub gb).keep (λ_ _=>rfl) (λ_ h=>h) hm (λid t cs ai=>⟨rfl,t,cs,ai⟩) (λid z t n es ai=>⟨rfl,z,t,es,ai⟩) (λid bU ai=>⟨rfl,bU,ai⟩);refine⟨β,ro,ah.defers,by simp[Z,Oj,<-aw,ah.size],λi x hx=>?_,?_,ah.ix,?_,by show E.n<=n/ 2000;rw[<-aN];exact ah.base⟩
 ·rcases Jl hx with rfl|hx
  ·exact .top _
  ·rw[zZ0]at hx
   have az:=Xh aa hx
   cases hi:s.dn[i]? with
   |none=>
    simp only[zZ8,hi,Option.getD_none]at az;subst az;exact .top _
   |some y=>
    simp only[zZ8,hi,zXf]at az;subst az;exact grow _ _ (ah.slot i _ hi)
 ·have a8:=ah.heap.sub gb
  exact⟨λid o ai=>(a8.dB id o ai).keep (λ_ _=>rfl) (λ_ h=>h) hm (zZv _) rfl (λ_ _ _=>rfl) (λid t cs ai=>⟨rfl,t,cs,ai⟩) (λid z t n es ai=>⟨rfl,z,t,es,ai⟩) (λid bU ai=>⟨rfl,bU,ai⟩),a8.inj,a8.fy,a8.lt⟩
 ·have t:=ah.trans.sub gb
  exact⟨t.os,t.tape,t.output,t.size,t.frame,t.h9,t.hp,t.gG,t.er,λid o ai=>zZw (t.new id o ai) hm,zZx t.le hm⟩
end
theorem DStep.bE{P:Program}{G:aV}{ops:Array Oper}{dD:aS}{T:List aC}{o:Oper}{v:aC}(ai:fh ops ⟨lJ (o.looksAt ops) T,dD.heap,dD.next,dD.base⟩ o=some true:=by as_aux_lemma=>kernel_rfl)
 (az:uW P G o ⟨lJ (o.looksAt ops) T,dD.heap,dD.next,dD.base⟩=some v:=by as_aux_lemma=>kernel_rfl):DStep P G ops dD T o v:=DStep.val ai az
end Go.aH
namespace Go.aH
open Go
inductive Step (R A:Type) where
 |ret (r:R)
 |c4 (a:A)
 |bJ (a:A)
def bI{R A:Type}(b:Nat->A->Step R A):Nat->Nat->A->R⊕A
 |_,0,a=>.inr a|k,m+1,a=>match b k a with
  | .ret r=>.inl r| .c4 a=>.inr a| .bJ a=>bI b (k+1) m a
theorem zhF{R A:Type}{b:Nat->A->Step R A}{k n:Nat}{a bo:A}{L:R⊕A}(h:L=bI b k (n-k) a)(an:k<n)(af:b k a= .bJ bo):L=bI b (k+1) (n-(k+1)) bo:=by
 rw[h,show n-k=(n-(k+1))+1 from by omega]
 simp[bI,af]
theorem zhG{R A:Type}{b:Nat->A->Step R A}{k n:Nat}{a:A}{r:R}{L:R⊕A}(h:L=bI b k (n-k) a)(an:k<n)(af:b k a= .ret r):L= .inl r:=by
 rw[h,show n-k=(n-k-1)+1 from by omega]
 simp[bI,af]
theorem zhH{R A:Type}{b:Nat->A->Step R A}{k n:Nat}{a bo:A}{L:R⊕A}(h:L=bI b k (n-k) a)(an:k<n)(af:b k a= .c4 bo):L= .inr bo:=by
 rw[h,show n-k=(n-k-1)+1 from by omega]
 simp[bI,af]
theorem zhI{R A:Type}{b:Nat->A->Step R A}{k n:Nat}{a:A}{L:R⊕A}(h:L=bI b k (n-k) a)(an:n<=k):L= .inr a:=by
 rw[h,show n-k=0 from by omega]
 rfl
section
variable {P:Program} {G:aV} {s:aS} {Q:Exit->aS->Prop}
def BG(P:Program)(G:aV)(c:Code)(Q:Exit->aS->Prop)(n:Nat)(s:aS):Prop:=∀E a w,Rel E G s a w->Code.rounds P c (lift E G Q) n a w
theorem cb.rounds{c:Code}(n:Nat)(h:BG P G c Q n s):cb P G (.loop c) Q s:=λE a w ah=>wp_loop_rounds n (h E a w ah)
theorem BG.rd{c:Code}(n:Nat)(h:cb P G c (λe s'=>match e with
      | .normal=>BG P G c Q n s'
      |e=>Q e s') s):BG P G c Q (n+1) s:=λE a w ah=>by
  rw[rounds_succ];refine wp_mono (h E a w ah) λe bo w' aB=>?_;obtain⟨s',aa,ae⟩:=aB
  cases e with
  |normal=>exact aa E bo w' ae|_=>exact⟨s',aa,ae⟩
end
theorem cb.zhJ{P:Program}{G:aV}{Q:Exit->aS->Prop}{s:aS}{c:Code}(k e n:Nat)(h:cb P G c Q {s with dn:=s.dn.set k (.aq s.next),heap:=(s.next,.row false e n [])::s.heap,next:=s.next+1})
 (an:s.dn[k]? =some (.ad (.v (.slice none 0 0))):=by as_aux_lemma=>kernel_rfl)(af:Nat.ble s.base s.next=true:=by as_aux_lemma=>kernel_rfl):cb P G c Q s:=
 cb.le (b5.zhz k e n an (Nat.le_of_ble_eq_true af) rfl) h
end Go.aH
namespace Go.aH
open Go
section
variable {P:Program} {G:aV} {dD:aS}
theorem nJ{ops:Array Oper}{E:Entry}{s:aS}{a:Act}{w:World}{o:Oper}{b:Bool}(ah:Rel E G s a w)(ai:fh ops s o=some b):Region.wanted o (yielded ops a.tmps)=b:=by
 unfold fh at ai
 split at ai
 ·rename_i hn
  simp at ai;subst ai;simp[Region.wanted,hn]
 ·rename_i j c hn
  split at ai
  ·rename_i d hdd
   split at ai
   ·rename_i rf ao
    have aA:=NP ah hdd ao;simp only[zYt]at ai
    cases c<;>cases rf<;>simp at ai<;>subst ai<;>simp[Region.wanted,hn,aA]
   ·rename_i cs ao
    have aA:=WH ah hdd ao;simp at ai;subst ai;simp[Region.wanted,hn,aA]
   ·cases ai
  ·cases ai
end
end Go.aH
namespace Go.aH
open Go
theorem Ok{P:Program}{o:Oper}{a:Act}{w:World}{K K':Act->World->Prop}{Q Q':Exit->Act->World->Prop}(h: ∀a w,K a w->K' a w)(ar: ∀c a w,Q (.panic c) a w->Q' (.panic c) a w)(av:LetsOut Q->LetsOut Q')
 (a8:o.wp P a w K Q):o.wp P a w K' Q':=by
 unfold Oper.wp at*;generalize (execOp a.eval o).run P w=r at*
 cases r with
 |ok n w'=>
  cases n<;>simp only[Oper.upon]at a8⊢ <;>
   first
    |exact h _ _ a8
    |exact Calls.mono a8 (λe zoR he=>by cases e<;>first|exact h _ _ he|exact ar _ _ _ he|exact av he)
    |exact Rows.mono a8 (λ_ _ he=>h _ _ he)
 |halt x w'=>cases x<;>simp only[Oper.upon]at a8⊢ <;>first|exact ar _ _ _ a8|exact a8
section
variable {P:Program} {G:aV} {Q:Exit->aS->Prop} {L:List Oper}
def Ends(t:aS):Exit->aS->Prop:=λe br=>e= .normal/\br=t
def pc(Q:Exit->aS->Prop):Exit->aS->Prop:=λe s=>e= .normal/\Q .normal s
def xf(P:Program)(G:aV)(L:List Oper)(Q:Exit->aS->Prop)(fuel:Nat)(m:List Bool)(s:aS):Prop:=∀E a w,Rel E G s a w->wpAny P .any L.toArray (lift E G (pc Q)) fuel m.toArray a w
inductive BH (P:Program) (G:aV) (L:List Oper) (Q:Exit->aS->Prop) (fuel:Nat) (m:List Bool) (s:aS):List Nat->Prop where
 |nil:BH P G L Q fuel m s []
 |cons {i:Nat} {r:List Nat} {o:Oper} (s':aS) (av:L[i]? =some o) (ao:c9 P G L.toArray (Ends s') [o] s) (k:xf P G L Q fuel (m.set i true) s') (ah:BH P G L Q fuel m s r):BH P G L Q fuel m s (i::r)
theorem BH.at{fuel:Nat}{m:List Bool}{s:aS}{rd:List Nat}(h:BH P G L Q fuel m s rd){i:Nat}(hi:i∈rd): ∃o s',L[i]? =some o/\c9 P G L.toArray (Ends s') [o] s/\xf P G L Q fuel (m.set i true) s':=by
 induction h with
 |nil=>cases hi
 |cons s' av ao k _ bb=>
  rcases zZf.1 hi with rfl|h
  ·exact⟨_,s',av,ao,k⟩
  ·exact bb h
theorem xf.step{fuel:Nat}{m:List Bool}{s:aS}(i0:Nat)(rd:List Nat)(ao:BH P G L Q fuel m s (i0::rd))(h:Region.ready .any L.toArray m.toArray=i0::rd:=by as_aux_lemma=>kernel_rfl):xf P G L Q (fuel+1) m s:=by
 intro E a w ah;refine⟨λhn=>(by rw[h]at hn;cases hn),λi hi=>?_⟩
 rw[h]at hi;obtain⟨o,s',av,aa,ae⟩:=ao.at hi;have aw:=aa E a w ah;have eX:m.toArray.setIfInBounds i true=(m.set i true).toArray:=by simp
 have next: ∀bo w',lift E G (Ends s') .normal bo w'->wpAny P .any L.toArray (lift E G (pc Q)) fuel (m.toArray.setIfInBounds i true) bo w':=by
  rintro bo w' ⟨t,⟨_,rfl⟩,dW⟩
  rw[eX];exact ae E bo w' dW
 unfold wpOp;rw[show L.toArray[i]? =some o from by simpa using av]
 simp only;unfold wpList at aw
 split at aw
 ·rename_i hw
  rw[if_pos hw]
  have jD:LetsOut (lift E G (Ends s'))->LetsOut (lift E G (pc Q)):=by
   rintro⟨_,_,_,⟨hn,_⟩,_⟩
   cases hn
  rcases aw with aw|⟨aw,aN⟩
  ·refine .inl (Ok (λbo w' an=>next bo w' an) (λc a w=>?_) jD aw)
   rintro⟨_,⟨hn,_⟩,_⟩
   cases hn
  ·exact .inr ⟨aw,jD aN⟩
 ·rename_i hw
  rw[if_neg hw];exact next _ _ aw
def hC(P:Program)(G:aV)(ops:Array Oper)(o:Oper)(s s':aS):Prop:=∀E a w,Rel E G s a w->∃v,Yields P ops o v a/\Rel E G s' (a.put o.dst v) w
def mO(P:Program)(G:aV)(o:Oper)(s:aS):Option aC:=
 match o.op with
 | .move x=>some (aR G s x)| .assign x=>some (aR G s x)| .fieldAddr t x f=>match uK P t f,ka s.heap (aR G s x)with
  |some k,true=>some (rN k (aR G s x))|_,_=>none
 | .nilCheck x=>match ka s.heap (aR G s x)with
  |true=>some (aR G s x)|false=>none
 |_=>none
theorem hC.val{ops:Array Oper}{o:Oper}{s:aS}{v:aC}(az:mO P G o s=some v)(ai:fh ops s o=some true):hC P G ops o s (s.put o.dst v):=by
 intro E a w ⟨β,ro,ah⟩;have hw:=nJ (ops:=ops) ⟨β,ro,ah⟩ ai;unfold mO at az
 split at az
 ·rename_i x av
  simp only[zYt]at az;subst az;exact⟨_,.inl ⟨hw,λw'=>by simp[execOp,av]⟩,β,ro,ah.put _ _ _ (ah.eval x)⟩
 ·rename_i x av
  simp only[zYt]at az;subst az;exact⟨_,.inl ⟨hw,λw'=>by simp[execOp,av]⟩,β,ro,ah.put _ _ _ (ah.eval x)⟩
 ·rename_i t x f av
  split at az
  ·rename_i k an hc
   simp only[zYt]at az;subst az;obtain⟨dj,he,dO⟩:=EE hc (ah.eval x);exact⟨_,.inl ⟨hw,λw'=>by simp[execOp,av,he,Wh an]⟩,β,ro,ah.put _ _ _ (dO k)⟩
  ·cases az
 ·rename_i x av
  split at az
  ·rename_i hc
   simp only[zYt]at az;subst az;obtain⟨dj,he,dO⟩:=EE hc (ah.eval x);exact⟨_,.inl ⟨hw,λw'=>by simp[execOp,av,he]⟩,β,ro,ah.put _ _ _ (he ▸ ah.eval x)⟩
  ·cases az
 ·cases az
theorem hC.skip{ops:Array Oper}{o:Oper}{s:aS}(ai:fh ops s o=some false):hC P G ops o s (s.put o.dst (.tuple [])):=by
 intro E a w ah;have hw:=nJ (ops:=ops) ah ai;exact⟨undef,.inr ⟨hw,rfl⟩,ah.AJ o.dst⟩
theorem Jm{ops:Array Oper}{Q Q':Exit->Act->World->Prop}(hn: ∀a w,Q .normal a w->Q' .normal a w)(ar: ∀c a w,Q (.panic c) a w->Q' (.panic c) a w)(av:LetsOut Q->LetsOut Q'):
 ∀(fuel:Nat) (m:Array Bool) (a:Act) (w:World),wpAny P .any ops Q fuel m a w->wpAny P .any ops Q' fuel m a w
 |0,m,a,w,h=>⟨h.1,hn _ _ h.2⟩|fuel+1,m,a,w,h=>by
  refine⟨λah=>hn _ _ (h.1 ah),λi hi=>?_⟩;have ae:=h.2 i hi;unfold wpOp at ae⊢
  split at ae
  ·exact Jm hn ar av fuel _ _ _ ae
  ·rename_i o _
   by_cases hw:Region.wanted o (yielded ops a.tmps)=true
   ·rw[if_pos hw]at ae⊢
    rcases ae with ae|⟨ae,aw⟩
    ·exact .inl (Ok (λbo w' an=>Jm hn ar av fuel _ _ _ an) ar av ae)
    ·exact .inr ⟨ae,av aw⟩
   ·rw[if_neg hw]at ae⊢
    exact Jm hn ar av fuel _ _ _ ae
theorem cb.zhK{id:Nat}{s:aS}(n:Nat)(h:xf P G L Q n (zZz n false) s)(Ol:P.follows .mixedOrders=true:=by as_aux_lemma=>kernel_rfl)(hn:Nat.beq L.length n=true:=by as_aux_lemma=>kernel_rfl):cb P G (.region id L.toArray true) Q s:=by
 have hn:=Nat.eq_of_beq_eq_true hn;subst hn;intro E a w ah;refine wp_region_any Ol (Jm (Q:=lift E G (pc Q)) (λa w ⟨t,⟨_,aa⟩,ae⟩=>⟨t,aa,ae⟩) (λc a w ⟨_,⟨hn,_⟩,_⟩=>by cases hn) (by rintro⟨_,_,_,⟨hn,_⟩,_⟩;cases hn) _ _ _ _ ?_)
 obtain⟨β,ro,ah⟩:=ah;have ai:=ah.grow (w':={w with drawn:=w.drawn+1}) (ro':=ro) rfl rfl rfl (zZv _) (λ_ _=>rfl) (λ_ h=>h) (λ_ h=>.inl h)
 have:=h E a _ ⟨β,ro,ai⟩;simpa using this
end
end Go.aH
