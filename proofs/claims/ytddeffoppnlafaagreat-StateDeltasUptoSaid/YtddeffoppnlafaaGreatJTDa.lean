/- Conditions: none. -/
import Derived.Test.YtddeffoppnlafaaGreatJSMz
import Derived.MapFrom
import Derived.ScopeJumps
import Derived.Laws.BytesString
import Derived.OrdersHeld
import Derived.Laws.Pointers
open Array renaming getElem?_eq_getElem->zX2,getElem?_eq_none->zWu,getElem?_eq_some_iff->zYu,getElem?_modify->zX4,getElem?_setIfInBounds_ne->zX1
open BitVec renaming ofInt->zWv
open Bool renaming and_eq_true->zZr
open List renaming drop_of_length_le->zX5,eq_nil_of_length_eq_zero->zY6,flatten_cons->zYs,getD_eq_getElem?_getD->zZe,getElem?_cons_zero->zXb,getElem?_eq_getElem->zZa,getElem?_eq_some_iff->zZ1,getElem?_map->zYo,getElem?_set->zX3,getElem?_take->zYk,getElem_mem->zXj,length_map->zXe,length_take->zX9,map_cons->zXq,map_map->zWq,map_nil->zXp,map_toArray->zXr,mem_cons->zZf,mem_map->zXs,mem_of_getElem?->zZ4,mem_of_mem_drop->zWw,mem_of_mem_take->zX8,nil_append->zX6,range->zYj,take_of_length_le->zYd
open Nat renaming add_mul->zXv,add_zero->zYh,beq->zZu,blt->zZs,div->zWs,le_of_ble_eq_true->zZq,le_refl->zZv,le_total->zWy,lt_of_lt_of_le->zZw,lt_or_ge->zYm,lt_succ_self->zYi,min->zX7,min_eq_left->zWz,min_eq_right->zWx,mod->zWt,mul_le_mul_right->zYb,sub->zWr,succ_mul->zYp,zero_add->zZ0,zero_le->zXx
open Option renaming map_eq_some_iff->zZ3,map_none->zXa,map_some->zXh
open Option.some renaming inj->zX0,injEq->zYt
open Prod.mk renaming injEq->zXt
namespace Go.aH
open Go Go.MapKept
def qj(R:a7->Value->Prop)(agg:Bool)(cs:List a7)(v:Value):Prop:=
 match agg with
 |true=>∃c:Array Value,v= .agg c/\c.size=cs.length/\∀i x,cs[i]? =some x->R x (c.getD i undef)|false=>∃x,cs=[x]/\R x v
theorem qj.mono{R q1:a7->Value->Prop}{agg:Bool}{cs:List a7}{v:Value}(h:qj R agg cs v)(iZ: ∀x c,R x c->q1 x c):qj q1 agg cs v:=by
 cases agg with
 |true=>obtain⟨c,aa,ae,aw⟩:=h;exact⟨c,aa,ae,λi x hi=>iZ _ _ (aw i x hi)⟩
 |false=>obtain⟨x,aa,ae⟩:=h;exact⟨x,aa,iZ _ _ ae⟩
def BI(agg:Bool)(dg:List (Value × List a7)):a7:=.mp agg (dg.map (·.1)) (dg.map (·.2))
def lz(agg:Bool)(dg:List (Value × List a7)):Bn where
 holds R v o:=(∃r,v= .map (some r))/\∃(es:Array MapEntry) (clock:Nat),o= .map es clock/\es.size=dg.length/\(dg.map (·.1)).Nodup/\∀(j:Nat) (k:Value) (cs:List a7),dg[j]? =some (k,cs)->∃e:MapEntry,es[j]? =some e/\e.key=k/\qj R agg cs e.val
 mono R q1 v o h a8:=by
  obtain⟨aa,es,clock,ae,aw,aN,bx⟩:=a8;refine⟨aa,es,clock,ae,aw,aN,λj k cs aj=>?_⟩;obtain⟨e,aE,bc,cJ⟩:=bx j k cs aj;exact⟨e,aE,bc,cJ.mono h⟩
 view:=some (BI agg dg)
 Wb ad AD w ro ro' v o b h af hw ah dW:=by
  simp only[zYt]at AD;subst AD;obtain⟨⟨r,rfl⟩,es,clock,rfl,aw,aN,bx⟩:=h;simp only[cF,zYt]at af;subst af
  have at_: ∀{j:Nat} {cs:List a7},(dg.map (·.2))[j]? =some cs->∃k e,dg[j]? =some (k,cs)/\es[j]? =some e/\e.key=k/\qj (dq w ro) agg cs e.val:=by
   intro j cs aj;rw[zYo]at aj;obtain⟨⟨k,cs'⟩,an,rfl⟩:=zZ3.1 aj;obtain⟨e,aE,bc,cJ⟩:=bx j k cs' an;exact⟨k,e,an,aE,bc,cJ⟩
  refine .mp agg _ _ r es clock (λj i=>match agg with
   |true=>match es[j]? with
    |some e=>match e.val with
     | .agg c=>c.getD i undef|_=>undef
    |none=>undef
   |false=>match es[j]? with
    |some e=>e.val
    |none=>undef) dW hw (by simpa using aw) (by simp) aN (λj k cs an az=>?_) (λj cs i x az hx=>?_)
  ·obtain⟨bl,e,g1,g2,g3,g4⟩:=at_ az
   rw[zYo,g1]at an;simp only[zXh,zYt]at an;refine⟨e,g2,g3.trans an,?_⟩
   cases agg with
   |true=>
    obtain⟨c,dp,dP,hT⟩:=g4;exact⟨c,dp,dP,λi _=>by simp[g2,dp]⟩
   |false=>
    obtain⟨x,rfl,dP⟩:=g4;exact⟨rfl,by simp[g2]⟩
  ·obtain⟨bl,e,g1,g2,g3,g4⟩:=at_ az
   have up: ∀x c,dq w ro x c->dq w ro' x c:=λx c h=>h.keep (λ_ _=>rfl) ah
   cases agg with
   |true=>
    obtain⟨c,dp,dP,hT⟩:=g4;have:=up _ _ (hT i x hx);simpa[g2,dp]using this
   |false=>
    obtain⟨y,rfl,dP⟩:=g4
    cases i with
    |zero=>
     simp only[zXb,zYt]at hx;subst hx;simpa[g2]using up _ _ dP
    |succ i=>simp at hx
def rQ(d:TypeDesc)(dg:List (Value × List a7)):Prop:=∀p∈dg,IsKey d p.1
section
variable {P:Program} {G:aV} {o:Oper} {s:aS}
theorem TU(agg:Bool)(t:TypeId)(av:o.op= .makeMap t none)(af:s.base<=s.next):
 eL P G o s ({s with heap:=(s.next,.bW (lz agg []))::s.heap,next:=s.next+1}.put o.dst (.ref s.next)):=by
 intro E a w ⟨β,ro,ah⟩ K Q hK;unfold Oper.wp;simp only[execOp,av,Instr.makeMap,zXa,Sem.run_bind,Sem.run_pure,Result.andThen_ok,run_newObj]
 have lB:aF s.heap s.next=none:=by
  cases ai:aF s.heap s.next with
  |none=>rfl|some p=>have:=ah.trans.new _ _ ai;omega
 have gS:=ah.new (w':=w.alloc (.map #[] 0)) s.next lB af (zZv _) (.bW (lz agg [])) (.map (some w.heap.size)) rfl rfl rfl (by simp) (λb af=>Go.RowKit.Below.heap_alloc w _ b af) (λb af=>by simp[cF]at af;omega) rfl
  (.bW _ w.heap.size (.map #[] 0) (by rw[fl];rfl) (heap_alloc_new w _) ⟨⟨_,fl _ _ _⟩,#[],0,rfl,rfl,by simp,λj k cs aj=>by simp at aj⟩)
 exact hK _ _ ⟨_,ro,gS.put o.dst (.ref s.next) (.map (some w.heap.size)) (.ref _ _ (zYi _) λbU _=>(fl _ _ _).symm)⟩
theorem Ot{E:Entry}{a:Act}{w:World}{β:Nat->Value}{ro:Nat->Prop}(ah:dy E G s a w β ro){x:Operand}{id:Nat}(hx:aR G s x= .ref id){agg:Bool}{dg:List (Value × List a7)}(bq:aF s.heap id=some (.bW (lz agg dg))):
 ∃(r:Nat) (es:Array MapEntry) (clock:Nat),a.eval x= .map (some r)/\β id= .map (some r)/\w.heap[r]? =some (.map es clock)/\es.size=dg.length/\(dg.map (·.1)).Nodup/\∀(j:Nat) (k:Value) (cs:List a7),dg[j]? =some (k,cs)->∃e:MapEntry,es[j]? =some e/\e.key=k/\qj (dq w ro) agg cs e.val:=by
 have eg:=ah.heap.dB id _ bq
 cases eg with
 |bW _ Ji kg aa ae aw=>
  obtain⟨⟨r,hB⟩,es,clock,rfl,aN,bx,cB⟩:=aw;have dh:=ah.eval x;rw[hx]at dh;generalize he:a.eval x=c at dh
  cases dh with
  |ref _ _ _ hc=>
   have pe:=hc _ bq;rw[hB]at aa pe;simp only[cF,zYt]at aa;subst aa;exact⟨r,es,clock,pe,hB,ae,aN,bx,cB⟩
def ou(G:aV)(s:aS)(m:Operand)(agg:Bool)(dg:List (Value × List a7)):Prop:=∀E a w β ro,dy E G s a w β ro->∃(r:Nat) (es:Array MapEntry) (clock:Nat),a.eval m= .map (some r)/\w.heap[r]? =some (.map es clock)/\es.size=dg.length/\(dg.map (·.1)).Nodup/\∀(j:Nat) (k:Value) (cs:List a7),dg[j]? =some (k,cs)->∃e:MapEntry,es[j]? =some e/\e.key=k/\qj (dq w ro) agg cs e.val
theorem ou.own{m:Operand}{id:Nat}{agg:Bool}{dg:List (Value × List a7)}(hm:aR G s m= .ref id)(bq:aF s.heap id=some (.bW (lz agg dg))):ou G s m agg dg:=λ_ _ _ _ _ ah=>by
 obtain⟨r,es,clock,aa,_,aw,aN,bx,cB⟩:=Ot ah hm bq;exact⟨r,es,clock,aa,aw,aN,bx,cB⟩
theorem ou.Xj{m:Operand}{agg:Bool}{dg:List (Value × List a7)}(hm:aR G s m= .ad (BI agg dg)):ou G s m agg dg:=λ_ a w β ro ah=>by
 have dh:=ah.eval m;rw[hm]at dh;generalize he:a.eval m=c at dh
 cases dh with
 |ad _ _ hx=>
  cases hx with
  |mp _ _ _ r es clock p aa ae aw aN bx cB eN=>
   refine⟨r,es,clock,rfl,ae,by simpa using aw,bx,λj k cs aj=>?_⟩
   have az:(dg.map (·.2))[j]? =some cs:=by simp[aj]
   obtain⟨e,aE,bc,cJ⟩:=cB j k cs (by simp[aj]) az
   refine⟨e,aE,bc,?_⟩
   cases agg with
   |true=>
    obtain⟨c,dp,dP,hT⟩:=cJ;refine⟨c,dp,dP,λi x hi=>?_⟩;rw[hT i (zZ1.1 hi).1];exact eN j cs i x az hi
   |false=>
    obtain⟨dp,dP⟩:=cJ
    match cs,dp,az with
    |[x],_,az=>exact⟨x,rfl,by rw[dP];exact eN j [x] 0 x az rfl⟩
def tr(agg:Bool)(cs:List a7)(v:aC):Prop:=
 match agg with
 |true=>v= .agg (cs.map .ad)|false=>∃x,cs=[x]/\v= .ad x
theorem Xk{w:World}{ro:Nat->Prop}{σ:bK}{β:Nat->Value}{N:Nat}{agg:Bool}{cs:List a7}{v:aC}{c:Value}(az:tr agg cs v)(h:bN w ro σ β N v c):qj (dq w ro) agg cs c:=by
 cases agg with
 |true=>
  simp only[tr]at az;subst az
  cases h with
  |agg _ c aa ae=>
   refine⟨c,rfl,by simpa using aa,λi x hi=>?_⟩
   have:=ae i (.ad x) (by rw[zYo,hi];rfl)
   cases this with
   |ad _ _ aw=>exact aw
 |false=>
  obtain⟨x,rfl,rfl⟩:=az
  cases h with
  |ad _ _ aw=>exact⟨x,rfl,aw⟩
theorem Ou{es:Array MapEntry}{dg:List (Value × List a7)}{R:a7->Value->Prop}{agg:Bool}{d:TypeDesc}(au:es.size=dg.length)(h: ∀(j:Nat) (k:Value) (cs:List a7),dg[j]? =some (k,cs)->∃e:MapEntry,es[j]? =some e/\e.key=k/\qj R agg cs e.val)(an:rQ d dg):
 ∀x∈es.toList,IsKey d x.key:=by
 intro x hx;obtain⟨j,aj,rfl⟩:=List.mem_iff_getElem.1 hx;have dv:j<dg.length:=by rw[<-au];simpa using aj
 have aa:dg[j]? =some (dg[j].1,dg[j].2):=zZa dv;obtain⟨e,ae,aw,_⟩:=h j _ _ aa
 have aN:es.toList[j]=e:=by
  have:es.toList[j]? =some e:=by simpa using ae
  rw[zZa aj]at this;exact zX0 this
 rw[aN,aw];exact an _ (zXj dv)
theorem TR{t fK fr:TypeId}{d:TypeDesc}(m x v:Operand)(av:o.op= .mapUpdate t m x v)(aJ:P.underlying t=some (.map fK fr))(hd:P.underlying fK=some d){id:Nat}(hm:aR G s m= .ref id){agg:Bool}{dg:List (Value × List a7)}
 (bq:aF s.heap id=some (.bW (lz agg dg))){k:Value}(hx:aR G s x= .ad (.v k))(n7:IsKey d k)(kV:rQ d dg){cs:List a7}(az:tr agg cs (aR G s v))(hI: ∀p∈dg,p.1≠k):
 eL P G o s ({s with heap:=eX s.heap id (.bW (lz agg (dg++[(k,cs)])))}.put o.dst .top):=by
 intro E a w ⟨β,ro,ah⟩ K Q hK;obtain⟨r,es,clock,aa,ae,aw,aN,bx,cB⟩:=Ot ah hm bq;have zj:=ah.ef hx;have Ov:=Xk az (ah.eval v)
 have zk:Instr.findNow d k es.toList 0=some none:=by
  rcases findNow_spec n7 es.toList 0 (Ou aN cB kV)with⟨g1,_⟩|⟨j,e,_,g2,g3⟩
  ·exact g1
  ·exfalso
   have aj:es[j]? =some e:=by simpa using g2
   have dv:j<dg.length:=by rw[<-aN];exact(zYu.1 aj).1
   obtain⟨aD,g4,g5,_⟩:=cB j dg[j].1 dg[j].2 (zZa dv);rw[aj]at g4
   cases g4
   exact hI _ (zXj dv) (g5.symm.trans g3)
 unfold Oper.wp
 have cE:(execOp a.eval o).run P w= .ok .skip {w with heap:=w.heap.setIfInBounds r (.map (es.push {key:=k,val:=a.eval v,born:=clock}) (clock+1))}:=by
  simp[execOp,av,aa,zj,Instr.mapUpdate,run_underlying aJ,MapKept.run_getObj_map aw,run_checkKey hd n7,run_findKey hd zk,MapKept.run_setObj_map _ aw,Result.andThen]
 rw[cE];have bR:=(zYu.1 aw).1;have Ow: ∀b,ro b->b≠r:=λb af e=>ah.heap.fy b af ⟨id,_,bq,rfl,by rw[ae,e];rfl⟩
 have hw:=ah.write (w':={w with heap:=w.heap.setIfInBounds r (.map (es.push {key:=k,val:=a.eval v,born:=clock}) (clock+1))}) id _ (.bW (lz agg (dg++[(k,cs)]))) bq rfl rfl (.inr (.inr ⟨_,_,rfl,rfl⟩)) rfl rfl rfl (by simp)
  (λj aj b6=>by
   have:r≠j:=λe=>b6 (by rw[ae,<-e];rfl)
   simp[zX1 this])
  (.bW _ r (.map (es.push {key:=k,val:=a.eval v,born:=clock}) (clock+1)) (by rw[ae];rfl) (by simp[bR]) ⟨⟨r,ae⟩,_,_,rfl,by simp[aN],by
   rw[List.map_append,List.nodup_append];refine⟨bx,by simp,λy aA z aW=>?_⟩
   simp only[zXq,zXp,List.mem_singleton]at aW;subst aW;obtain⟨p,ar,rfl⟩:=zXs.1 aA;exact hI p ar,λj bl cs' aj=>by
   have ja: ∀y c,dq w ro y c->dq {w with heap:=w.heap.setIfInBounds r (.map (es.push {key:=k,val:=a.eval v,born:=clock}) (clock+1))} ro y c:=λy c aA=>
    aA.keep (λb af=>by have:=Ow b af;simp[zX1 (Ne.symm this)]) λ_ h=>h
   rcases zYm j dg.length with dv|dv
   ·rw[List.getElem?_append_left dv]at aj
    obtain⟨e,g1,g2,g3⟩:=cB j bl cs' aj;exact⟨e,by rw[Array.getElem?_push_lt (by omega)];rw[zX2 (by omega)]at g1;exact g1,g2,g3.mono ja⟩
   ·rw[List.getElem?_append_right dv]at aj
    have zh1:j-dg.length=0:=by
     have:=(zZ1.1 aj).1;simp at this;omega
    rw[zh1]at aj;simp only[zXb,zYt,zXt]at aj;obtain⟨rfl,rfl⟩:=aj
    exact⟨_,by rw[show j=es.size from by omega];exact Array.getElem?_push_size,rfl,Ov.mono ja⟩⟩)
 exact hK _ _ ⟨β,ro,hw.put o.dst _ _ (.top _)⟩
theorem zh2{es:Array MapEntry}{dg:List (Value × List a7)}{R:a7->Value->Prop}{agg:Bool}{d:TypeDesc}{k:Value}(au:es.size=dg.length)(h: ∀(j:Nat) (k:Value) (cs:List a7),dg[j]? =some (k,cs)->∃e:MapEntry,es[j]? =some e/\e.key=k/\qj R agg cs e.val)(kV:rQ d dg)
 (n7:IsKey d k)(hI: ∀p∈dg,p.1≠k):Instr.findNow d k es.toList 0=some none:=by
 rcases findNow_spec n7 es.toList 0 (Ou au h kV)with⟨g1,_⟩|⟨j,e,_,g2,g3⟩
 ·exact g1
 ·exfalso
  have aj:es[j]? =some e:=by simpa using g2
  have dv:j<dg.length:=by rw[<-au];exact(zYu.1 aj).1
  obtain⟨aD,g4,g5,_⟩:=h j dg[j].1 dg[j].2 (zZa dv);rw[aj]at g4
  cases g4
  exact hI _ (zXj dv) (g5.symm.trans g3)
theorem Xl{es:Array MapEntry}{dg:List (Value × List a7)}{R:a7->Value->Prop}{agg:Bool}{d:TypeDesc}{k:Value}{i:Nat}{cs:List a7}(au:es.size=dg.length)(e3:(dg.map (·.1)).Nodup)(h: ∀(j:Nat) (k:Value) (cs:List a7),dg[j]? =some (k,cs)->∃e:MapEntry,es[j]? =some e/\e.key=k/\qj R agg cs e.val)(kV:rQ d dg)
 (n7:IsKey d k)(hi:dg[i]? =some (k,cs)): ∃e:MapEntry,Instr.findNow d k es.toList 0=some (some (i,e.val))/\es[i]? =some e/\e.key=k/\qj R agg cs e.val:=by
 obtain⟨hQ,dp,dP,hT⟩:=h i k cs hi
 rcases findNow_spec n7 es.toList 0 (Ou au h kV)with⟨_,g1⟩|⟨j,e,g1,g2,g3⟩
 ·exact absurd dP (g1 hQ (zZ4 (i:=i) (by simpa using dp)))
 ·have aj:es[j]? =some e:=by simpa using g2
  have dv:j<dg.length:=by rw[<-au];exact(zYu.1 aj).1
  obtain⟨aD,g4,g5,_⟩:=h j dg[j].1 dg[j].2 (zZa dv);rw[aj]at g4
  cases g4
  have o9:i=j:=by
   have aa:(dg.map (·.1))[i]? =some k:=by rw[zYo,hi];rfl
   have ae:(dg.map (·.1))[j]? =some k:=by rw[zYo,zZa dv];simp[<-g3,g5]
   exact(List.getElem?_inj (zZ1.1 aa).1 e3).1 (aa.trans ae.symm)
  subst o9;rw[aj]at dp
  cases dp
  exact⟨_,by rw[zZ0]at g1;exact g1,aj,g3,hT⟩
theorem TQ{t fK fr:TypeId}{d:TypeDesc}(m x v:Operand)(av:o.op= .mapUpdate t m x v)(aJ:P.underlying t=some (.map fK fr))(hd:P.underlying fK=some d){id:Nat}(hm:aR G s m= .ref id){agg:Bool}{dg:List (Value × List a7)}
 (bq:aF s.heap id=some (.bW (lz agg dg))){k:Value}(hx:aR G s x= .ad (.v k))(n7:IsKey d k)(kV:rQ d dg){cs rX:List a7}(az:tr agg cs (aR G s v)){i:Nat}(hi:dg[i]? =some (k,rX)):
 eL P G o s ({s with heap:=eX s.heap id (.bW (lz agg (dg.set i (k,cs))))}.put o.dst .top):=by
 intro E a w ⟨β,ro,ah⟩ K Q hK;obtain⟨r,es,clock,aa,ae,aw,aN,bx,cB⟩:=Ot ah hm bq;have zj:=ah.ef hx;have Ov:=Xk az (ah.eval v);obtain⟨hQ,zk,vt,Xm,_⟩:=Xl aN bx cB kV n7 hi;unfold Oper.wp
 have cE:(execOp a.eval o).run P w= .ok .skip {w with heap:=w.heap.setIfInBounds r (.map (es.modify i λe=>{e with key:=k,val:=a.eval v}) clock)}:=by
  simp[execOp,av,aa,zj,Instr.mapUpdate,run_underlying aJ,MapKept.run_getObj_map aw,run_checkKey hd n7,run_findKey hd zk,vt,Xm,run_keyThatStays n7,MapKept.run_setObj_map _ aw,Result.andThen]
 rw[cE];have bR:=(zYu.1 aw).1;have Ow: ∀b,ro b->b≠r:=λb af e=>ah.heap.fy b af ⟨id,_,bq,rfl,by rw[ae,e];rfl⟩
 have hw:=ah.write (w':={w with heap:=w.heap.setIfInBounds r (.map (es.modify i λe=>{e with key:=k,val:=a.eval v}) clock)}) id _ (.bW (lz agg (dg.set i (k,cs)))) bq rfl rfl (.inr (.inr ⟨_,_,rfl,rfl⟩)) rfl rfl rfl (by simp)
  (λj aj b6=>by
   have:r≠j:=λe=>b6 (by rw[ae,<-e];rfl)
   simp[zX1 this])
  (.bW _ r (.map (es.modify i λe=>{e with key:=k,val:=a.eval v}) clock) (by rw[ae];rfl) (by simp[bR]) ⟨⟨r,ae⟩,_,_,rfl,by simp[aN],by
   have:(dg.set i (k,cs)).map (·.1)=dg.map (·.1):=by
    apply List.ext_getElem?;intro j;rw[zYo,zYo,zX3]
    split
    ·rename_i e
     subst e;rw[if_pos (zZ1.1 hi).1,hi];rfl
    ·rfl
   rw[this];exact bx,λj bl cs' aj=>by
   have ja: ∀y c,dq w ro y c->dq {w with heap:=w.heap.setIfInBounds r (.map (es.modify i λe=>{e with key:=k,val:=a.eval v}) clock)} ro y c:=λy c aA=>
    aA.keep (λb af=>by have:=Ow b af;simp[zX1 (Ne.symm this)]) λ_ h=>h
   rw[zX3]at aj
   by_cases e:i=j
   ·subst e
    rw[if_pos rfl,if_pos (zZ1.1 hi).1]at aj;simp only[zYt,zXt]at aj;obtain⟨rfl,rfl⟩:=aj;exact⟨{hQ with key:=k,val:=a.eval v},by simp[zX4,vt],rfl,Ov.mono ja⟩
   ·rw[if_neg e]at aj
    obtain⟨aE,g1,g2,g3⟩:=cB j bl cs' aj
    exact⟨aE,by rw[zX4,if_neg e];exact g1,g2,g3.mono ja⟩⟩)
 exact hK _ _ ⟨β,ro,hw.put o.dst _ _ (.top _)⟩
def yf(c:Bool)(v:aC)(b:Bool):aC:=
 match c with
 |true=>.tuple [v,.ad (.v (.bool b))]|false=>v
def wB(agg:Bool)(cs:List a7):aC:=
 match agg,cs with
 |true,_=>.agg (cs.map .ad)|false,[x]=>.ad x|false,_=>.top
theorem Xn{w:World}{ro:Nat->Prop}{σ:bK}{β:Nat->Value}{N:Nat}{agg:Bool}{cs:List a7}{c:Value}(h:qj (dq w ro) agg cs c):bN w ro σ β N (wB agg cs) c:=by
 cases agg with
 |true=>
  obtain⟨arr,rfl,aa,ae⟩:=h;refine .agg _ arr (by simpa using aa) λj x aj=>?_
  rw[zYo]at aj;obtain⟨y,aA,rfl⟩:=zZ3.1 aj;exact .ad _ _ (ae j y aA)
 |false=>
  obtain⟨x,rfl,aa⟩:=h;exact .ad _ _ aa
theorem TA{t fK fr:TypeId}{d:TypeDesc}(c:Bool)(m x:Operand)(av:o.op= .lookup t m x c)(aJ:P.underlying t=some (.map fK fr))(hd:P.underlying fK=some d){agg:Bool}{dg:List (Value × List a7)}(gx:ou G s m agg dg)
 {k:Value}(hx:aR G s x= .ad (.v k))(n7:IsKey d k)(kV:rQ d dg){cs:List a7}{i:Nat}(hi:dg[i]? =some (k,cs)):
 c8 P G o s (yf c (wB agg cs) true):=λE a w β ro ah=>by
 obtain⟨r,es,clock,aa,aw,aN,bx,cB⟩:=gx E a w β ro ah;have zj:=ah.ef hx;obtain⟨hQ,zk,vt,Xm,az⟩:=Xl aN bx cB kV n7 hi;refine⟨match c with|true=>.tuple #[hQ.val,.bool true]|false=>hQ.val,?_,?_⟩
 ·cases c<;>simp[execOp,av,aa,zj,Instr.lookup,run_underlying aJ,MapKept.run_getObj_map aw,run_checkKey hd n7,run_findKey hd zk,Result.andThen]
 ·cases c with
  |false=>exact Xn az|true=>
   refine .tuple _ _ rfl λj y aj=>?_
   match j,aj with
   |0,aj=>simp at aj;subst aj;exact Xn az|1,aj=>simp at aj;subst aj;exact .fu rfl|j+2,aj=>simp at aj
def nH:Value->aC
 | .agg c=>.agg (c.toList.map λv=>.ad (.v v))
 |v=>.ad (.v v)
def rP:Value->Bool
 | .agg c=>c.toList.all (·.oneCell')|v=>v.oneCell'
theorem Ds{w:World}{ro:Nat->Prop}{σ:bK}{β:Nat->Value}{N:Nat}{z:Value}(h:rP z=true):bN w ro σ β N (nH z) z:=by
 unfold rP at h;unfold nH
 split
 ·rename_i c
  refine .agg _ c (by simp) λj x aj=>?_
  rw[zYo]at aj;obtain⟨v,az,rfl⟩:=zZ3.1 aj;have k7:c[j]? =some v:=by simpa using az
  rw[Array.getD_eq_getD_getElem?,k7];exact .ad _ _ (.v _ (List.all_eq_true.1 h v (zZ4 az)))
 ·rename_i b6
  refine .ad _ _ (.v _ ?_)
  split at h
  ·rename_i c
   exact absurd rfl (b6 c)
  ·exact h
theorem TB{t fK fr:TypeId}{d:TypeDesc}(c:Bool)(m x:Operand)(av:o.op= .lookup t m x c)(aJ:P.underlying t=some (.map fK fr))(hd:P.underlying fK=some d){agg:Bool}{dg:List (Value × List a7)}(gx:ou G s m agg dg)
 {k:Value}(hx:aR G s x= .ad (.v k))(n7:IsKey d k)(kV:rQ d dg)(hI: ∀p∈dg,p.1≠k){z:Value}(aW:(P.info? fr).bind (·.zero)=some z)(lZ:rP z=true):
 c8 P G o s (yf c (nH z) false):=λE a w β ro ah=>by
 obtain⟨r,es,clock,aa,aw,aN,bx,cB⟩:=gx E a w β ro ah;have zj:=ah.ef hx;have zk:=zh2 aN cB kV n7 hI
 have wC:(zeroValue fr).run P w= .ok z w:=by
  cases hi:P.info? fr with
  |none=>rw[hi]at aW;cases aW
  |some i=>
   rw[hi]at aW;have m7:i.zero=some z:=aW;simp[zeroValue,typeInfo,hi,m7]
 refine⟨match c with|true=>.tuple #[z,.bool false]|false=>z,?_,?_⟩
 ·cases c<;>simp[execOp,av,aa,zj,Instr.lookup,run_underlying aJ,MapKept.run_getObj_map aw,run_checkKey hd n7,run_findKey hd zk,wC,Result.andThen]
 ·cases c with
  |false=>exact Ds lZ|true=>
   refine .tuple _ _ rfl λj y aj=>?_
   match j,aj with
   |0,aj=>simp at aj;subst aj;exact Ds lZ|1,aj=>simp at aj;subst aj;exact .fu rfl|j+2,aj=>simp at aj
end
end Go.aH
namespace Go.aH
open Go Go.MapKept
def sq{K V:Type}[DecidableEq K]:List (K × V)->K->V->List (K × V)
 |[],k,v=>[(k,v)]|(bl,bC)::r,k,v=>if bl=k then(k,v)::r else(bl,bC)::sq r k v
def tW{K V:Type}[DecidableEq K]:List (K × V)->K->Option V
 |[],_=>none|(bl,bC)::r,k=>if bl=k then some bC else tW r k
theorem Ox{K V:Type}[DecidableEq K]: ∀{l:List (K × V)} {k:K} {v:V},tW l k=some v->∃i,l[i]? =some (k,v)/\∀w:V,sq l k w=l.set i (k,w)
 |[],_,_,h=>by cases h
 |(bl,bC)::r,k,v,h=>by
  simp only[tW]at h
  split at h
  ·rename_i e
   cases h;subst e;exact⟨0,rfl,λw=>by simp[sq]⟩
  ·rename_i e
   obtain⟨i,aa,ae⟩:=Ox h;exact⟨i+1,by simpa using aa,λw=>by simp[sq,e,ae w]⟩
theorem Oy{K V:Type}[DecidableEq K]: ∀{l:List (K × V)} {k:K},tW l k=none->(∀p∈l,p.1≠k)/\∀w:V,sq l k w=l++[(k,w)]
 |[],_,_=>⟨by simp,λw=>rfl⟩
 |(bl,bC)::r,k,h=>by
  simp only[tW]at h
  split at h
  ·cases h
  ·rename_i e
   obtain⟨aa,ae⟩:=Oy h;refine⟨λp ar=>?_,λw=>by simp[sq,e,ae w]⟩
   rcases zZf.1 ar with rfl|ar
   ·exact e
   ·exact aa p ar
def h0{K V:Type}(key:K->Value)(C:V->List a7)(l:List (K × V)):List (Value × List a7):=l.map λp=>(key p.1,C p.2)
structure zl {K:Type} (d:TypeDesc) (key:K->Value):Prop where
 ok: ∀k,IsKey d (key k)
 inj: ∀k bl,key k=key bl->k=bl
theorem Oz:zl .string (λs:ByteArray=>Value.string s):=⟨λ_=>trivial,λ_ _ h=>by cases h;rfl⟩
theorem OA(Xo:IntKind):zl (.int Xo) (λn:Int=>Value.int Xo n):=⟨λ_=>rfl,λ_ _ h=>by cases h;rfl⟩
theorem zl.h0{K V:Type}{d:TypeDesc}{key:K->Value}(h:zl d key)(C:V->List a7)(l:List (K × V)):rQ d (h0 key C l):=by
 intro p ar;obtain⟨q,_,rfl⟩:=zXs.1 ar;exact h.ok q.1
section
variable {P:Program} {G:aV} {o:Oper} {s:aS} {K V:Type} [DecidableEq K]
theorem Xp{t fK fr:TypeId}{d:TypeDesc}{key:K->Value}(k8:zl d key)(C:V->List a7)(agg:Bool)(l:List (K × V))(k:K)(e:V)(id:Nat){m x v:Operand}(av:o.op= .mapUpdate t m x v)(aJ:P.underlying t=some (.map fK fr))(hd:P.underlying fK=some d)
 (hm:aR G s m= .ref id)(bq:aF s.heap id=some (.bW (lz agg (h0 key C l))))(hx:aR G s x= .ad (.v (key k)))(az:tr agg (C e) (aR G s v)):
 eL P G o s ({s with heap:=eX s.heap id (.bW (lz agg (h0 key C (sq l k e))))}.put o.dst .top):=by
 cases ai:tW l k with
 |some w=>
  obtain⟨i,aa,ae⟩:=Ox ai;have aw:(h0 key C l)[i]? =some (key k,C w):=by simp[h0,aa]
  have:=TQ m x v av aJ hd hm bq hx (k8.ok k) (k8.h0 C l) az aw;have aE:h0 key C (sq l k e)=(h0 key C l).set i (key k,C e):=by rw[ae];simp[h0,List.map_set]
  rw[aE];exact this
 |none=>
  obtain⟨aa,ae⟩:=Oy ai
  have:=TR m x v av aJ hd hm bq hx (k8.ok k) (k8.h0 C l) az (λp ar an=>by
   obtain⟨q,aB,rfl⟩:=zXs.1 ar
   exact aa q aB (k8.inj _ _ an))
  have aE:h0 key C (sq l k e)=h0 key C l++[(key k,C e)]:=by rw[ae];simp[h0]
  rw[aE];exact this
theorem Xq{t fK fr:TypeId}{d:TypeDesc}{key:K->Value}(k8:zl d key)(C:V->List a7)(agg:Bool)(l:List (K × V))(k:K)(e:V)(c:Bool){m x:Operand}(av:o.op= .lookup t m x c)(aJ:P.underlying t=some (.map fK fr))(hd:P.underlying fK=some d)
 (gx:ou G s m agg (h0 key C l))(hx:aR G s x= .ad (.v (key k)))(ai:tW l k=some e):
 c8 P G o s (yf c (wB agg (C e)) true):=by
 obtain⟨i,aa,_⟩:=Ox ai;have aw:(h0 key C l)[i]? =some (key k,C e):=by simp[h0,aa]
 exact TA c m x av aJ hd gx hx (k8.ok k) (k8.h0 C l) aw
theorem Xr{t fK fr:TypeId}{d:TypeDesc}{key:K->Value}(k8:zl d key)(C:V->List a7)(agg:Bool)(l:List (K × V))(k:K)(c:Bool)(z:Value){m x:Operand}(av:o.op= .lookup t m x c)(aJ:P.underlying t=some (.map fK fr))(hd:P.underlying fK=some d)
 (gx:ou G s m agg (h0 key C l))(hx:aR G s x= .ad (.v (key k)))(ai:tW l k=none)(aW:(P.info? fr).bind (·.zero)=some z)(lZ:rP z=true):
 c8 P G o s (yf c (nH z) false):=
 TB c m x av aJ hd gx hx (k8.ok k) (k8.h0 C l) (λp ar an=>by
  obtain⟨q,aB,rfl⟩:=zXs.1 ar
  exact(Oy ai).1 q aB (k8.inj _ _ an)) aW lZ
end
end Go.aH
namespace Go.aH
open Go
def dk{R A:Type}(b:A->Step R A):Nat->A->R⊕A
 |0,a=>.inr a|n+1,a=>match b a with
  | .ret r=>.inl r| .c4 a=>.inr a| .bJ a=>dk b n a
def mQ{R A:Type}(b:A->Step R A):Nat->A->Prop
 |0,_=>False|n+1,a=>match b a with
  | .ret _=>True| .c4 _=>True| .bJ a=>mQ b n a
theorem zh3{R A:Type}{b:A->Step R A}{n:Nat}{a bo:A}{L:R⊕A}(h:L=dk b n a/\mQ b n a)(af:b a= .bJ bo): ∃m,n=m+1/\L=dk b m bo/\mQ b m bo:=by
 obtain⟨aa,ae⟩:=h
 cases n with
 |zero=>cases ae
 |succ n=>exact⟨n,rfl,by simpa[dk,af]using aa,by simpa[mQ,af]using ae⟩
theorem zh4{R A:Type}{b:A->Step R A}{n:Nat}{a:A}{r:R}{L:R⊕A}(h:L=dk b n a/\mQ b n a)(af:b a= .ret r):L= .inl r:=by
 obtain⟨aa,ae⟩:=h
 cases n with
 |zero=>cases ae
 |succ n=>simpa[dk,af]using aa
theorem zh5{R A:Type}{b:A->Step R A}{n:Nat}{a bo:A}{L:R⊕A}(h:L=dk b n a/\mQ b n a)(af:b a= .c4 bo):L= .inr bo:=by
 obtain⟨aa,ae⟩:=h
 cases n with
 |zero=>cases ae
 |succ n=>simpa[dk,af]using aa
end Go.aH
namespace Go.aH
open Go Go.MapKept
section
variable {P:Program} {G:aV} {o:Oper} {s:aS}
theorem Xs{α:Type}{n:Nat}: ∀{es:List (List α)},(∀e∈es,e.length=n)->∀k:Nat,(es.take k).flatten=es.flatten.take (k*n)
 |[],_,k=>by simp|e::r,h,0=>by simp|e::r,h,k+1=>by
  have he:e.length=n:=h e (by simp)
  have aE:(k+1)*n-n=k*n:=by rw[zYp];omega
  have bc:e.take ((k+1)*n)=e:=zYd (by rw[he,zYp];omega)
  rw[List.take_succ_cons,zYs,zYs,Xs (λx hx=>h x (by simp[hx])) k,List.take_append,bc,he,aE]
theorem Xt{α:Type}{n:Nat}: ∀{es:List (List α)},(∀e∈es,e.length=n)->∀k:Nat,(es.drop k).flatten=es.flatten.drop (k*n)
 |[],_,k=>by simp|e::r,h,0=>by simp|e::r,h,k+1=>by
  have he:e.length=n:=h e (by simp)
  have aE:(k+1)*n-n=k*n:=by rw[zYp];omega
  have bc:e.drop ((k+1)*n)=[]:=zX5 (by rw[he,zYp];omega)
  rw[List.drop_succ_cons,zYs,Xt (λx hx=>h x (by simp[hx])) k,List.drop_append,bc,he,aE,zX6]
theorem zdz{x y:Operand}{t br:TypeId}(av:o.op= .call {callee:=.builtin .copy,args:=#[x,y],argTypes:=#[t,br]}){n:Nat}(aJ:lY P t=some n){id:Nat}(hx:aR G s x= .aq id){bt:TypeId}{es:List (List a7)}(bq:aF s.heap id=some (.row false bt n es))
 {fs:List (List a7)}(aA:iQ s.heap n (aR G s y)=some fs):
 eL P G o s ({s with heap:=eX s.heap id (.row false bt n (fs.take es.length++es.drop fs.length))}.put o.dst (AF ((zX7 fs.length es.length:Nat):Int))):=by
 intro E a w ⟨β,ro,ah⟩ K Q hK;obtain⟨e,hu,iF⟩:=zg aJ;obtain⟨b,cap,hc,ow,rZ,f,kz,r0⟩:=AN ah.heap (ah.eval y) aA;have eg:=ah.heap.dB id _ bq
 cases eg with
 |row _ _ _ xs ea b6 fW=>
  have mN:a.eval x=β id:=by
   have h:=ah.eval x;rw[hx]at h;generalize a.eval x=c at h
   cases h with
   |aq _ _ _ ar=>exact ar _ _ _ _ bq
  have zh6:=ea;obtain⟨Bp,oN⟩:=ea
  let k:=zX7 fs.length es.length
  have k8:k<=fs.length:=Nat.min_le_left _ _;have zh7:k<=es.length:=Nat.min_le_right _ _;have Xu: ∀q∈fs.take k,q.length=n:=λq aB=>ow q (zX8 aB);have Xv:(fs.take k).flatten=fs.flatten.take (k*n):=Xs ow k
  have zh8: ∀j x,(fs.take k).flatten[j]? =some x->dq w ro x (f j):=λj x aj=>by
   rw[Xv,zYk]at aj
   split at aj
   ·exact r0 j x aj
   ·cases aj
  obtain⟨qM,tw,tx⟩:=DM Xu zh8;rw[zX9,zWz k8]at qM
  have zh9:fs.take es.length=fs.take k:=by
   show fs.take es.length=fs.take (zX7 fs.length es.length)
   rcases zWy fs.length es.length with h|h
   ·rw[show zX7 fs.length es.length=fs.length from zWz h,zYd h,zYd (zZv _)]
   ·rw[show zX7 fs.length es.length=es.length from zWx h]
  have hdr:es.drop fs.length=es.drop k:=by
   show es.drop fs.length=es.drop (zX7 fs.length es.length)
   rcases zWy fs.length es.length with h|h
   ·rw[show zX7 fs.length es.length=fs.length from zWz h]
   ·rw[show zX7 fs.length es.length=es.length from zWx h,zX5 h,zX5 (zZv _)]
  rw[zh9,hdr]at hK
  rcases oN with⟨⟨hL,az⟩,aW⟩|⟨g,h6,cur,Bs,EK,ai,hle,kE,fH,nh⟩
  ·
   have Dn:es=[]:=zY6 aW;subst Dn;have hE:k=0:=by omega
   have kF:(Builtin.firstCells n 0 (.slice b fs.length cap)).run P w= .ok #[] w:=by
    cases b with
    |none=>rfl|some dj=>exact run_firstCells_some (P:=P) w n 0 dj fs.length cap [] (by simp) (by simp)
   have cE:(execOp a.eval o).run P w= .ok (.value (goInt 0)) w:=by
    have hm:zX7 fs.length 0=0:=zWx (zXx _);simp only[execOp,av,resolve,invoke,builtin,Sem.run_bind,Sem.run_pure,Result.andThen_ok,zXr,zXq,zXp,mN,az,hc,Builtin.copy_,Builtin.lenOf]
    cases hL<;>simp[kF,storeCells,iF,run_underlying hu]
   unfold Oper.wp;rw[cE];refine hK _ _ ⟨β,ro,(ah.write (w':=w) id _ (.row false bt n (fs.take k++[].drop k)) bq rfl rfl (.inr (.inl ⟨_,_,_,_,rfl,rfl⟩)) rfl rfl rfl (zZv _) (λ_ _ _=>rfl) ?_).put o.dst _ _ (by rw[show zX7 fs.length ([]:List (List a7)).length=0 from zWx (zXx _)];exact .fu rfl)⟩
   rw[hE];exact .row bt n _ xs zh6 (by simp) (by simp)
  ·have fv:cur.size=h6*n:=fH
   have I5:k*n<=es.length*n:=zYb n zh7;have zgZ:es.length*n<=h6*n:=zYb n hle;have zia:h6≠0:=Nat.ne_of_gt EK;have HG:((fs.take k).flatten).length=k*n:=by rw[Xv,zX9,jZ ow,zWz (zYb n k8)]
   generalize BJ:(zYj ((fs.take k).length*n)).map f=news at qM tw tx;have E4:news.length=k*n:=by rw[<-BJ,zXe,List.length_range,zX9,zWz k8]
   have e1:=run_storeCells_at P g 0 bt news 0 cur w ai (by rw[E4];omega) tw
   simp only[zYh,zZ0,List.append_assoc]at e1
   have kF:(Builtin.firstCells n k (.slice b fs.length cap)).run P w= .ok news.toArray w:=by
    cases b with
    |none=>
     have re:fs=[]:=rZ rfl;have:k=0:=by have:=k8;rw[re]at this;simpa using this
     rw[this,Nat.zero_mul]at E4;rw[zY6 E4];rfl
    |some dj=>
     refine run_firstCells_some (P:=P) w n k dj fs.length cap news E4 λj v aj=>?_;have dv:j<k*n:=by rw[<-E4];exact(zZ1.1 aj).1
     have zib:j<fs.length*n:=zZw dv (zYb n k8);have aa:=kz dj rfl j zib;rw[<-BJ]at aj;have zic:j<(fs.take k).length*n:=by rw[zX9,zWz k8];exact dv
     have Jq:some (f j)=some v:=by rw[<-aj,zYo,List.getElem?_range zic];rfl
     rw[aa,Jq]
   have cE:(execOp a.eval o).run P w= .ok (.value (goInt k)) (w.setRow g (eJ cur.toList 0 news).toArray):=by
    simp only[execOp,av,resolve,invoke,builtin,Sem.run_bind,Sem.run_pure,Result.andThen_ok,zXr,zXq,zXp,mN,Bs,hc,Builtin.copy_];simp only[eJ,zZ0];simp[run_underlying hu,Builtin.lenOf,iF,kF,e1,k]
   unfold Oper.wp;rw[cE]
   have lG: ∀q,q<w.heap.size->cF (β id)≠some q->(w.setRow g (eJ cur.toList 0 news).toArray).heap[q]? =w.heap[q]? :=λq _ aB=>
    setRow_other w g q _ (λe=>aB (by rw[Bs,e];simp[cF,zia]))
   have cA: ∀q,ro q->(w.setRow g (eJ cur.toList 0 news).toArray).heap[q]? =w.heap[q]? :=λq aB=>
    lG q (ah.heap.lt q aB) λbp=>ah.heap.fy q aB ⟨id,_,bq,rfl,bp⟩
   have zid:(fs.take k++es.drop k).length=es.length:=by rw[List.length_append,zX9,List.length_drop,zWz k8];omega
   have zie:(fs.take k++es.drop k).flatten=eJ es.flatten 0 (fs.take k).flatten:=by
    rw[List.flatten_append,Xt b6,eJ,List.take_zero,zX6,zZ0,HG]
   refine hK _ _ ⟨β,ro,(ah.write (w':=w.setRow g (eJ cur.toList 0 news).toArray) id _ (.row false bt n (fs.take k++es.drop k)) bq rfl rfl (.inr (.inl ⟨_,_,_,_,rfl,rfl⟩)) rfl rfl rfl (by simp) lG ?_).put o.dst _ _ (.fu rfl)⟩
   refine .row bt n _ (eJ xs 0 news) ?_ (λaD jq=>?_) (λj y aj=>?_)
   ·rw[Bs,zid]
    refine⟨by rw[q4 _ _ _ (by omega)];exact Bp,.inr ⟨g,h6,_,rfl,EK,setRow_heap w g cur _ bt (0,0) ai,hle,kE,?_,?_⟩⟩
    ·rw[List.size_toArray,q4 _ _ _ (by simp;omega)];simpa using fH
    ·show List.take (es.length*n) (eJ cur.toList 0 news)=_
     rw[Wr _ _ _ _ (by omega) (by simp;omega),nh]
   ·rcases List.mem_append.1 jq with h|h
    ·exact Xu _ h
    ·exact b6 _ (zWw h)
   ·rw[zie]at aj
    have ao:=I4 (dq w ro) undef (cs:=es.flatten) (vs:=(fs.take k).flatten) (xs:=xs) (ys:=news) (off:=0) (by rw[jZ b6];omega) (by omega) (by rw[jZ b6,HG];omega)
     (λj x aj=>fW j x aj) (λj y aj=>tx j y aj) j y aj
    exact ao.keep cA λ_ h=>h
end
def Xw{A:Type}(b:A->Step Unit A)(n:Nat)(a:A):A:=
 match dk b n a with
 | .inl _=>a| .inr x=>x
abbrev mapM{K V:Type}(agg:Bool)(key:K->Value)(C:V->List a7)(l:List (K × V)):a7:=BI agg (h0 key C l)
section
variable {G:aV} {s:aS} {K V:Type}
theorem ou.m{key:K->Value}{C:V->List a7}{m:Operand}{agg:Bool}{l:List (K × V)}(hm:aR G s m= .ad (mapM agg key C l):=by as_aux_lemma=>kernel_rfl):ou G s m agg (h0 key C l):=.Xj hm
end
end Go.aH
namespace Go.aH
open Go
section
variable {P:Program} {G:aV} {o:Oper} {s:aS} {Q:Exit->aS->Prop}
theorem c9.Jr{ops:Array Oper}{rest:List Oper}(v:aC)(az:c8 P G o s v)(k:c9 P G ops Q rest (s.put o.dst v))(ai:fh ops s o=some true:=by as_aux_lemma=>kernel_rfl):c9 P G ops Q (o::rest) s:=
 c9.step ai az.step k
end
end Go.aH
namespace Go.aH
open Go
def ml(k:IntKind)(x y:Int):Int:=k.wrap ((zWv k.bits x ||| zWv k.bits y).toNat:Int)
def np(k:IntKind)(x y:Int):Int:=k.wrap ((zWv k.bits x &&& zWv k.bits y).toNat:Int)
def jK(k:IntKind)(x y:Int):Int:=k.wrap ((zWv k.bits x ^^^ zWv k.bits y).toNat:Int)
def bytesOf(l:List Int):ByteArray:=l.foldl (λr n=>r.push (UInt8.ofNat n.toNat)) ByteArray.empty
def xg(o:Oper):Option (BinOp × Operand × Operand):=
 match o.op with
 | .binOp op _ x y _=>some (op,x,y)|_=>none
theorem OB: ∀(l:List Int),(l.map λn=>[a7.v (.int .u8 n)]).flatten=l.map λn=>a7.v (.int .u8 n)
 |[]=>rfl|n::l=>by simp only[zXq,zYs,OB l]<;>rfl
section
variable {P:Program} {G:aV} {o:Oper} {s:aS}
theorem BK{op:BinOp}(cR ty:TypeId)(x y:Operand)(av:o.op= .binOp op cR x y ty){k:IntKind}{a b r:Int}(hx:aR G s x= .ad (.v (.int k a)))(aA:aR G s y= .ad (.v (.int k b)))
 (ah: ∀w,(binOp op cR (.int k a) (.int k b)).run P w= .ok (.int k r) w):c8 P G o s (.ad (.v (.int k r))):=
 λ_ bo w β ro h=>by
  have ai:(eqGuard op cR x y (.int k a) (.int k b)).run P w= .ok () w:=by rw[eqGuard_at_int];rfl
  exact⟨.int k r,by simp[execOp,av,h.ef hx,h.ef aA,ai,ah w],.fu rfl⟩
theorem Mf(src dst e:TypeId)(x:Operand)(av:o.op= .convert src dst x)(ao:P.underlying src=some (.slice e))(he:P.underlying e=some (.int .u8))(hd:P.underlying dst=some .string)
    {l:List Int}(hx:iQ s.heap 1 (aR G s x)=some (l.map λn=>[.v (.int .u8 n)])):c8 P G o s (.ad (.v (.string (bytesOf l)))):=
  λ_ a w β ro h=>by
    obtain⟨b,cap,hc,_,rZ,f,kz,r0⟩:=AN h.heap (h.eval x) hx;rw[zXe]at hc kz
    have cE:(Conv.bytesToString (a.eval x)).run P w= .ok (.string (bytesOf l)) w:=by
      rw[hc]
      cases b with
      |none=>
        have aP:l=[]:=List.map_eq_nil_iff.1 (rZ rfl);subst aP;rfl
      |some dj=>
        refine run_bytesToString w dj l.length cap l ?_
        have:=run_loadCells_list (P:=P) (w:=w) dj (l.map (Value.int .u8)) λj v aj=>by
          have dv:j<l.length:=by
            have:=(zZ1.1 aj).1;simpa using this
          rw[kz dj rfl j (by omega)]
          have ae:=OB l
          have aw:=r0 j (.v v) (by rw[ae];rw[zYo]at aj⊢;cases aB:l[j]? with
            |none=>rw[aB]at aj;cases aj
            |some n=>rw[aB]at aj;simp only[zXh,zYt]at aj⊢;subst aj;rfl)
          cases aw;rfl
        simpa using this
    obtain⟨aT,iD⟩: ∃dF rf,a.eval x= .slice b dF rf:=⟨_,_,hc⟩;obtain⟨aO,By⟩:=iD
    have pe:(convert src dst (a.eval x)).run P w= .ok (.string (bytesOf l)) w:=by
      rw[By]at cE⊢;rw[run_convert_bytes_string w src dst e b aT aO ao he hd];exact cE
    exact⟨.string (bytesOf l),by simp[execOp,av,pe],.fu rfl⟩
end
section
variable {P:Program} {G:aV} {Q:Exit->aS->Prop} {s:aS} {ops:Array Oper} {o:Oper} {rest:List Oper}
theorem c9.rem(k:IntKind)(a b:Int)(x y:Operand)(af:b≠0)(h:c9 P G ops Q rest (s.put o.dst (.ad (.v (.int k (a.tmod b))))))
 (ai:fh ops s o=some true:=by as_aux_lemma=>kernel_rfl)(av:xg o=some (.rem,x,y):=by as_aux_lemma=>kernel_rfl)(hx:aR G s x= .ad (.v (.int k a)):=by as_aux_lemma=>kernel_rfl)(aA:aR G s y= .ad (.v (.int k b)):=by as_aux_lemma=>kernel_rfl):c9 P G ops Q (o::rest) s:=by
 unfold xg at av
 split at av
 ·rename_i op t mm tq br l6
  simp only[zYt,zXt]at av;obtain⟨rfl,rfl,rfl⟩:=av;exact c9.Jr _ (q5 .rem _ _ _ _ l6 hx aA (by simp[kv,af])) h ai
 ·cases av
theorem c9.ml(k:IntKind)(a b:Int)(x y:Operand)(h:c9 P G ops Q rest (s.put o.dst (.ad (.v (.int k (ml k a b))))))
 (ai:fh ops s o=some true:=by as_aux_lemma=>kernel_rfl)(av:xg o=some (.or,x,y):=by as_aux_lemma=>kernel_rfl)(hx:aR G s x= .ad (.v (.int k a)):=by as_aux_lemma=>kernel_rfl)(aA:aR G s y= .ad (.v (.int k b)):=by as_aux_lemma=>kernel_rfl):c9 P G ops Q (o::rest) s:=by
 unfold xg at av
 split at av
 ·rename_i op t mm tq br l6
  simp only[zYt,zXt]at av;obtain⟨rfl,rfl,rfl⟩:=av;exact c9.Jr _ (BK _ _ _ _ l6 hx aA λw=>by simp[binOp,Op.intBits,aH.ml]) h ai
 ·cases av
theorem c9.np(k:IntKind)(a b:Int)(x y:Operand)(h:c9 P G ops Q rest (s.put o.dst (.ad (.v (.int k (np k a b))))))
 (ai:fh ops s o=some true:=by as_aux_lemma=>kernel_rfl)(av:xg o=some (.and,x,y):=by as_aux_lemma=>kernel_rfl)(hx:aR G s x= .ad (.v (.int k a)):=by as_aux_lemma=>kernel_rfl)(aA:aR G s y= .ad (.v (.int k b)):=by as_aux_lemma=>kernel_rfl):c9 P G ops Q (o::rest) s:=by
 unfold xg at av
 split at av
 ·rename_i op t mm tq br l6
  simp only[zYt,zXt]at av;obtain⟨rfl,rfl,rfl⟩:=av;exact c9.Jr _ (BK _ _ _ _ l6 hx aA λw=>by simp[binOp,Op.intBits,aH.np]) h ai
 ·cases av
theorem c9.jK(k:IntKind)(a b:Int)(x y:Operand)(h:c9 P G ops Q rest (s.put o.dst (.ad (.v (.int k (jK k a b))))))
 (ai:fh ops s o=some true:=by as_aux_lemma=>kernel_rfl)(av:xg o=some (.xor,x,y):=by as_aux_lemma=>kernel_rfl)(hx:aR G s x= .ad (.v (.int k a)):=by as_aux_lemma=>kernel_rfl)(aA:aR G s y= .ad (.v (.int k b)):=by as_aux_lemma=>kernel_rfl):c9 P G ops Q (o::rest) s:=by
 unfold xg at av
 split at av
 ·rename_i op t mm tq br l6
  simp only[zYt,zXt]at av;obtain⟨rfl,rfl,rfl⟩:=av;exact c9.Jr _ (BK _ _ _ _ l6 hx aA λw=>by simp[binOp,Op.intBits,aH.jK]) h ai
 ·cases av
def Df(op:BinOp):Value->Value->Option Value
 | .int k a,.int bl b=>if k=bl then match op with
  | .and=>some (.int k (aH.np k a b))| .or=>some (.int k (aH.ml k a b))| .xor=>some (.int k (aH.jK k a b))|_=>none
  else none
 |_,_=>none
theorem Mi{P:Program}{op:BinOp}{x y c:Value}(h:Df op x y=some c)(t:TypeId)(p q:Operand)(w:World):
 (eqGuard op t p q x y).run P w= .ok () w/\(binOp op t x y).run P w= .ok c w/\c.oneCell'=true:=by
 unfold Df at h
 split at h
 ·split at h
  ·rename_i an
   subst an;refine⟨by rw[eqGuard_at_int];rfl,?_⟩
   split at h
   all_goals first
    |(cases h;done)
    |(simp only[zYt]at h;subst h;exact⟨by simp[binOp,Op.intBits,aH.ml,aH.np,aH.jK],rfl⟩)
  ·cases h
 ·cases h
def Xx(P:Program)(G:aV)(o:Oper)(s:aS):Option aC:=
 match o.op with
 | .binOp op _ x y _=>match aR G s x,aR G s y with
  | .ad (.v u),.ad (.v v)=>match kv op u v,Df op u v with
   |some c,_=>some (.ad (.v c))|none,some c=>some (.ad (.v c))|none,none=>none
  |_,_=>none
 | .convert src dst x=>match aR G s x,P.underlying src,P.underlying dst with
  | .ad (.v (.int _ n)),some _,some (.int bl)=>some (.ad (.v (.int bl (bl.wrap n))))|_,_,_=>none
 | .extract x i=>match aR G s x with
  | .tuple cs=>cs[i]?|_=>none
 |_=>none
theorem hC.zdF{s:aS}{ops:Array Oper}{o:Oper}{v:aC}(az:Xx P G o s=some v)(ai:fh ops s o=some true):hC P G ops o s (s.put o.dst v):=by
 intro E a w ⟨β,ro,ah⟩;have hw:=nJ (ops:=ops) ⟨β,ro,ah⟩ ai;unfold Xx at az
 split at az
 ·rename_i op t x y br av
  split at az
  ·rename_i u AQ hx aA
   split at az
   ·rename_i _ _ c hc
    simp only[zYt]at az;subst az
    exact⟨c,.inl ⟨hw,λw'=>by
     obtain⟨aa,ae,_⟩:=NL (P:=P) hc t x y w'
     simp[execOp,av,ah.ef hx,ah.ef aA,aa,ae]⟩,β,ro,ah.put _ _ _ (.fu (NL (P:=P) hc t x y w).2.2)⟩
   ·rename_i c _ hc
    simp only[zYt]at az;subst az
    exact⟨c,.inl ⟨hw,λw'=>by
     obtain⟨aa,ae,_⟩:=Mi (P:=P) hc t x y w'
     simp[execOp,av,ah.ef hx,ah.ef aA,aa,ae]⟩,β,ro,ah.put _ _ _ (.fu (Mi (P:=P) hc t x y w).2.2)⟩
   ·cases az
  ·cases az
 ·rename_i src dst x av
  split at az
  ·rename_i n _ bl hx ao hd
   simp only[zYt]at az;subst az;exact⟨_,.inl ⟨hw,λw'=>by simp[execOp,av,ah.ef hx,convert,run_underlying ao,run_underlying hd,Conv.intToInt]⟩,β,ro,ah.put _ _ _ (.fu rfl)⟩
  ·cases az
 ·rename_i x i av
  split at az
  ·rename_i cs hx
   have h:=ah.eval x;rw[hx]at h;generalize he:a.eval x=c at h
   cases h with
   |tuple _ c ao hc=>
    have bR:i<c.size:=by have:=(zZ1.1 az).1;omega
    refine⟨c[i],.inl ⟨hw,λw'=>by simp[execOp,av,Instr.extract,he,bR]⟩,β,ro,ah.put _ _ _ ?_⟩
    simpa[bR]using hc i v az
  ·cases az
 ·cases az
end
end Go.aH
namespace Go.aH
open Go
theorem gR.refl(w:World):gR w w:=λ_ _=>rfl
theorem gR.trans{w bA ec:World}(h:gR w bA)(k:gR bA ec):gR w ec:=λb af=>by
 have aa:=h b af
 have jj:b<bA.heap.size:=by
  rcases zYm b bA.heap.size with ae|ae
  ·exact ae
  ·rw[zWu ae,zX2 af]at aa
   cases aa
 rw[k b jj,aa]
theorem gR.cell{w bA:World}(h:gR w bA){a:Addr}{c:Value}(hc:w.cell? a=some c):bA.cell? a=some c:=by
 have af:a.block<w.heap.size:=by
  rcases zYm a.block w.heap.size with af|af
  ·exact af
  ·unfold World.cell? at hc
   rw[zWu af]at hc
   cases hc
 unfold World.cell? at hc⊢;rw[h _ af];exact hc
section
variable {P:Program} {ops:Array Oper} {Q:Exit->Act->World->Prop} {S:World->Prop} {wr:Nat->Bool}
def pd(P:Program)(ops:Array Oper)(Q:Exit->Act->World->Prop)(S:World->Prop)(wr:Nat->Bool):Nat->Array Bool->Act->World->Prop
 |0,listed,a,w=>Region.ready .any ops listed=[]/\Q .normal a w|fuel+1,listed,a,w=>
  (Region.ready .any ops listed=[]->Q .normal a w)/\
  ∀i∈Region.ready .any ops listed,wpOp P ops Q i (λbo w'=>(wr i=true/\wpAny P .any ops Q fuel (listed.setIfInBounds i true) bo w')\/(wr i=false/\S w'/\pd P ops Q S wr fuel (listed.setIfInBounds i true) bo w')) a w
theorem Xy: ∀(fuel:Nat) (listed:Array Bool) (a:Act) (w:World),pd P ops Q S wr fuel listed a w->wpAny P .any ops Q fuel listed a w
 |0,_,_,_,h=>h
 |fuel+1,_,_,_,h=>⟨h.1,λi hi=>wpOp_mono (λbo w' h'=>by
  rcases h' with⟨_,h'⟩|⟨_,_,h'⟩
  ·exact h'
  ·exact Xy fuel _ bo w' h') (h.2 i hi)⟩
theorem DF{bV:World->Prop}(hS: ∀w,S w->bV w): ∀(fuel:Nat) (listed:Array Bool) (a:Act) (w:World),pd P ops Q S wr fuel listed a w->pd P ops Q bV wr fuel listed a w
 |0,_,_,_,h=>h
 |fuel+1,_,_,_,h=>⟨h.1,λi hi=>wpOp_mono (λbo w' h'=>by
  rcases h' with h'|⟨aa,ae,h'⟩
  ·exact .inl h'
  ·exact .inr ⟨aa,hS _ ae,DF hS fuel _ bo w' h'⟩) (h.2 i hi)⟩
end
section
variable {P:Program} {G:aV} {Q:Exit->aS->Prop} {L:List Oper} {wr:List Bool}
def fg(P:Program)(G:aV)(L:List Oper)(Q:Exit->aS->Prop)(wr:List Bool)(fuel:Nat)(m:List Bool)(s:aS):Prop:=∀E a w,Rel E G s a w->pd P L.toArray (lift E G (pc Q)) (gR w) (λi=>wr.getD i false) fuel m.toArray a w
theorem fg.dj{fuel:Nat}{m:List Bool}{s:aS}(h:fg P G L Q wr fuel m s):xf P G L Q fuel m s:=λE a w ah=>Xy _ _ _ _ (h E a w ah)
theorem fg.done{n:Nat}{m:List Bool}{s:aS}(aB:Q .normal s)(h:Region.ready .any L.toArray m.toArray=[]:=by as_aux_lemma=>kernel_rfl):fg P G L Q wr n m s:=by
 intro E a w ah
 cases n with
 |zero=>exact⟨h,s,⟨rfl,aB⟩,ah⟩|succ n=>exact⟨λ_=>⟨s,⟨rfl,aB⟩,ah⟩,λi hi=>by rw[h]at hi;cases hi⟩
def jW(P:Program)(G:aV)(ops:Array Oper)(o:Oper)(s s':aS):Prop:=∀E a w,Rel E G s a w->∃v,YieldsIf P ops (gR w) o v a/\Rel E G s' (a.put o.dst v) w
theorem hC.l{ops:Array Oper}{o:Oper}{s s':aS}(h:hC P G ops o s s'):jW P G ops o s s':=λE a w ah=>by
 obtain⟨v,aa,ae⟩:=h E a w ah;exact⟨v,aa.yieldsIf,ae⟩
def Js(P:Program)(G:aV)(o:Oper)(s:aS):Option aC:=
 match o.op with
 | .load t x=>match gj s.heap (aR G s x)with
  |some (y::cs)=>match scalar P t with
   |true=>some y|false=>match nF P t with
    |some n=>if n<=(y::cs).length/\0<n then some (.agg ((y::cs).take n))else none
    |none=>none
  |_=>none
 |_=>none
theorem jW.load{ops:Array Oper}{o:Oper}{s:aS}{v:aC}(az:Js P G o s=some v)(ai:fh ops s o=some true):jW P G ops o s (s.put o.dst v):=by
 intro E a w ⟨β,ro,ah⟩;have hw:=nJ (ops:=ops) ⟨β,ro,ah⟩ ai;unfold Js at az
 split at az
 ·rename_i t x av
  split at az
  ·rename_i y cs ar
   split at az
   ·rename_i aJ
    simp only[zYt]at az;subst az;obtain⟨dj,hc,f,hf⟩:=Bo ah.heap ar (ah.eval x) (by simp)
    obtain⟨kF,dO⟩:=hf 0 y rfl;rw[show dj.add 0=dj from by simp[Addr.add]]at kF
    refine⟨f 0,.inl ⟨hw,λbA an=>?_⟩,β,ro,ah.put _ _ _ dO⟩;have aa:=AB aJ bA;simp[execOp,av,hc,Instr.loadAt,Instr.sureAddr,loadVar,aa,run_load,gR.cell an kF]
   ·split at az
    ·rename_i n aJ
     split at az
     ·rename_i hn
      simp only[zYt]at az;subst az;obtain⟨dj,hc,f,hf⟩:=Bo ah.heap ar (ah.eval x) (by simp)
      have zoS:n<=cs.length+1:=by simpa using hn.1
      refine⟨.agg ((zYj n).map f).toArray,.inl ⟨hw,λbA an=>?_⟩,β,ro,ah.put _ _ _ (.agg _ _ (by simp;omega) λj z aj=>?_)⟩
      ·obtain⟨aa,ae⟩:=I2 aJ bA
       have au:=run_loadCells (P:=P) bA dj n f (λj aj=>gR.cell an (hf j ((y::cs)[j]'(by omega)) (by simp)).1)
       simp[execOp,av,hc,Instr.loadAt,Instr.sureAddr,loadVar,aa,ae,au]
      ·rw[zYk]at aj
       split at aj
       ·have:=(hf j z aj).2
        rename_i sd;simpa[sd]using this
       ·cases aj
     ·cases az
    ·cases az
  ·cases az
 ·cases az
def tX(P:Program)(G:aV)(ops:Array Oper)(o:Oper)(s s':aS):Prop:=∀E a w,Rel E G s a w->
 (Region.wanted o (yielded ops a.tmps)=true/\∀(K:Act->World->Prop) (Q:Exit->Act->World->Prop),(∀bo w',Rel E G s' bo w'->gR w w'->K bo w')->o.wp P a w K Q)\/
 (Region.wanted o (yielded ops a.tmps)=false/\Rel E G s' (a.put o.dst undef) w)
theorem tX.of{ops:Array Oper}{o:Oper}{s s1 s':aS}(ai:fh ops s o=some true)(an:pb P G o s s1)(au:b5 s1 s'):tX P G ops o s s':=λE a w ah=>
 .inl ⟨nJ ah ai,λK Q hK=>an E a w ah K Q λbo w' dW=>hK bo w' (au E G bo w' dW)⟩
theorem tX.le{ops:Array Oper}{o:Oper}{s s1 s':aS}(au:b5 s s1)(h:tX P G ops o s1 s'):tX P G ops o s s':=λE a w ah=>h E a w (au E G a w ah)
inductive xh (P:Program) (G:aV) (L:List Oper) (Q:Exit->aS->Prop) (wr:List Bool) (fuel:Nat) (m:List Bool) (s:aS):List Nat->Prop where
 |nil:xh P G L Q wr fuel m s []
 |k {i:Nat} {r:List Nat} {o:Oper} (s':aS) (av:L[i]? =some o) (hw:wr.getD i false=false) (ao:tX P G L.toArray o s s') (k:fg P G L Q wr fuel (m.set i true) s') (ah:xh P G L Q wr fuel m s r):xh P G L Q wr fuel m s (i::r)
 |w {i:Nat} {r:List Nat} {o:Oper} (s':aS) (av:L[i]? =some o) (hw:wr.getD i false=true) (ao:c9 P G L.toArray (Ends s') [o] s) (k:xf P G L Q fuel (m.set i true) s') (ah:xh P G L Q wr fuel m s r):xh P G L Q wr fuel m s (i::r)
theorem xh.at{fuel:Nat}{m:List Bool}{s:aS}{rd:List Nat}(h:xh P G L Q wr fuel m s rd){i:Nat}(hi:i∈rd):
 (∃o s',L[i]? =some o/\wr.getD i false=false/\tX P G L.toArray o s s'/\fg P G L Q wr fuel (m.set i true) s')\/
 (∃o s',L[i]? =some o/\wr.getD i false=true/\c9 P G L.toArray (Ends s') [o] s/\xf P G L Q fuel (m.set i true) s'):=by
 induction h with
 |nil=>cases hi
 |k s' av hw ao k _ bb=>
  rcases zZf.1 hi with rfl|h
  ·exact .inl ⟨_,s',av,hw,ao,k⟩
  ·exact bb h
 |w s' av hw ao k _ bb=>
  rcases zZf.1 hi with rfl|h
  ·exact .inr ⟨_,s',av,hw,ao,k⟩
  ·exact bb h
theorem fg.step{fuel:Nat}{m:List Bool}{s:aS}(i0:Nat)(rd:List Nat)(ao:xh P G L Q wr fuel m s (i0::rd))(h:Region.ready .any L.toArray m.toArray=i0::rd:=by as_aux_lemma=>kernel_rfl):fg P G L Q wr (fuel+1) m s:=by
 intro E a w ah;refine⟨λhn=>(by rw[h]at hn;cases hn),λi hi=>?_⟩
 rw[h]at hi;have eX:m.toArray.setIfInBounds i true=(m.set i true).toArray:=by simp
 rcases ao.at hi with⟨o,s',av,hw,aa,ae⟩|⟨o,s',av,hw,aa,ae⟩
 ·have next: ∀bo w',Rel E G s' bo w'->gR w w'->wr.getD i false=false/\gR w w'/\pd P L.toArray (lift E G (pc Q)) (gR w) (λi=>wr.getD i false) fuel (m.toArray.setIfInBounds i true) bo w':=λbo w' dW an=>by
   rw[eX];exact⟨hw,an,DF (λec ae=>an.trans ae) _ _ _ _ (ae E bo w' dW)⟩
  unfold wpOp;rw[show L.toArray[i]? =some o from by simpa using av]
  simp only
  rcases aa E a w ah with⟨gm,aw⟩|⟨gm,aw⟩
  ·rw[if_pos gm]
   exact .inl (aw _ _ λbo w' dW an=>.inr (next bo w' dW an))
  ·rw[if_neg (by rw[gm];decide)]
   exact .inr (next _ _ aw (gR.refl w))
 ·have aw:=aa E a w ah
  have next: ∀bo w',lift E G (Ends s') .normal bo w'->wr.getD i false=true/\wpAny P .any L.toArray (lift E G (pc Q)) fuel (m.toArray.setIfInBounds i true) bo w':=by
   rintro bo w' ⟨t,⟨_,rfl⟩,dW⟩
   rw[eX];exact⟨hw,ae E bo w' dW⟩
  unfold wpOp;rw[show L.toArray[i]? =some o from by simpa using av]
  simp only;unfold wpList at aw
  split at aw
  ·rename_i gm
   rw[if_pos gm]
   have jD:LetsOut (lift E G (Ends s'))->LetsOut (lift E G (pc Q)):=by
    rintro⟨_,_,_,⟨hn,_⟩,_⟩
    cases hn
   rcases aw with aw|⟨aw,aN⟩
   ·refine .inl (Ok (λbo w' an=>.inl (next bo w' an)) (λc a w=>?_) jD aw)
    rintro⟨_,⟨hn,_⟩,_⟩
    cases hn
   ·exact .inr ⟨aw,jD aN⟩
  ·rename_i gm
   rw[if_neg gm];exact .inl (next _ _ aw)
def OC(P:Program)(G:aV)(o:Oper)(s:aS):Option aS:=
 match uW P G o s with
 |some v=>some (s.put o.dst v)|none=>match o.op with
  | .alloc t=>match zeroCells P t with
   |some zs=>match zs.all Value.oneCell'&&Nat.ble s.base s.next with
    |true=>some ({s with heap:=(s.next,.box t (zs.map λz=>.ad (.v z)))::s.heap,next:=s.next+1}.put o.dst (.ptr s.next 0))
    |false=>none
   |none=>none
  | .box t x=>match(dc (aR G s x)).all (fp s.heap)&&Nat.ble s.base s.next with
   |true=>some ({s with heap:=(s.next,.box t (dc (aR G s x)))::s.heap,next:=s.next+1}.put o.dst (.ptr s.next 0))
   |false=>none
  |_=>none
theorem zif{o:Oper}{s s':aS}(h:OC P G o s=some s'):pb P G o s s':=by
 unfold OC at h
 split at h
 ·rename_i v az
  simp only[zYt]at h;subst h;exact(Hd az).MA
 ·split at h
  ·rename_i t av
   split at h
   ·rename_i zs aW
    split at h
    ·rename_i af
     rw[zZr]at af;simp only[zYt]at h;subst h;exact Wo t av (zZq af.2) aW af.1
    ·cases h
   ·cases h
  ·rename_i t x av
   split at h
   ·rename_i af
    rw[zZr]at af;simp only[zYt]at h;subst h;exact Wn t x av (zZq af.2) af.1
   ·cases h
  ·cases h
theorem tX.run{ops:Array Oper}{o:Oper}{s:aS}(n:Nat)(l:List (Nat × aC))(h:bK)(N:Nat)
 (hx:(match fh ops s o,OC P G o s with
  |some true,some s'=>some (Oi l h s',s'.next)
  |_,_=>none)=some (Xg l h n,N):=by as_aux_lemma=>kernel_rfl):tX P G ops o s (Z n l h N):=by
 split at hx
 ·rename_i s' ai gr
  simp only[zYt,zXt]at hx;exact tX.of ai (zif gr) (zhE hx.1 (Nat.le_of_eq hx.2))
 ·cases hx
end
end Go.aH
namespace Go.aH
open Go
section
variable {P:Program} {G:aV} {o:Oper} {s:aS} {Q:Exit->aS->Prop}
theorem Xz{t e:TypeId}(h:P.underlying t=some (.pointer e)):P.underlying t=some (.pointer (P.pointee t)):=by
 rw[h];simp[Program.pointee,h]
end
theorem b5.zig{s s':aS}(id off e n:Nat){t:TypeId}{cs:List aC}(bq:aF s.heap id=some (.box t cs))(an:cs[off]? =some (.ad (.v (.slice none 0 0))))(af:s.base<=s.next)
 (h:({s with heap:=eX ((s.next,.row false e n [])::s.heap) id (.box t (cs.set off (.aq s.next))),next:=s.next+1}:aS)=s'):b5 s s':=by
 subst h;intro E G a w ⟨β,ro,ah⟩
 have lB:aF s.heap s.next=none:=by
  cases ai:aF s.heap s.next with
  |none=>rfl|some p=>have:=ah.trans.new _ _ ai;omega
 have b6:id≠s.next:=λh=>by rw[h,lB]at bq;cases bq
 have gS:=ah.new (w':=w) s.next lB af (zZv _) (.row false e n []) (.slice none 0 0) rfl rfl rfl (zZv _) (λ_ _=>rfl) (λc hc=>by simp[cF]at hc) rfl
  (.row e n [] [] (by rw[fl];exact⟨by simp,.inl ⟨⟨none,rfl,λ_ h=>(by cases h)⟩,rfl⟩⟩) (by simp) (by simp))
 have zm:aF ((s.next,.row false e n [])::s.heap) id=some (.box t cs):=by
  simp only[aF,if_neg (Ne.symm b6)];exact bq
 have eg:=gS.heap.dB id _ zm
 cases eg with
 |box _ _ b arr aa ae aw aN=>
  refine⟨_,ro,gS.write id _ _ zm rfl rfl (.inl ⟨_,_,_,rfl,rfl⟩) rfl rfl rfl (zZv _) (λ_ _ _=>rfl) (.box t _ b arr aa ae (by rw[aw,List.length_set]) λj x aj=>?_)⟩
  rw[zX3]at aj
  split at aj
  ·rename_i aE
   subst aE
   split at aj
   ·simp only[zYt]at aj
    subst aj;have az:=bN.val (aN off _ an);refine .aq _ _ (zYi _) λz br b0 e2 _=>?_;rw[az];exact(fl _ _ _).symm
   ·cases aj
  ·exact NJ zm (aN j x aj) λ_ _=>rfl
end Go.aH
namespace Go.aH
open Go
section
variable {w:World} {ro:Nat->Prop}
theorem dq.Jt{i:bZ}{l:List (hY i)}{c:Value}(h:dq w ro (.li i l) c):dq w ro (.aq (dE i) (l.map (dr i))) c:=by
 cases h with
 |li _ _ _ h=>exact h
end
def Sub(x y:aC):Prop:=∀(w:World) (ro:Nat->Prop) (σ:bK) (β:Nat->Value) (N:Nat) (c:Value),bN w ro σ β N x c->bN w ro σ β N y c
def oQ(x y:a7):Prop:=∀(w:World) (ro:Nat->Prop) (c:Value),dq w ro x c->dq w ro y c
theorem Sub.refl(x:aC):Sub x x:=λ_ _ _ _ _ _ h=>h
theorem Sub.trans{x y z:aC}(h:Sub x y)(k:Sub y z):Sub x z:=λw ro σ β N c a=>k w ro σ β N c (h w ro σ β N c a)
theorem Sub.top(x:aC):Sub x .top:=λ_ _ _ _ _ c _=>.top c
theorem oQ.refl(x:a7):oQ x x:=λ_ _ _ h=>h
theorem oQ.cI{x y:a7}(h:oQ x y):Sub (.ad x) (.ad y):=λw ro σ β N c a=>by
 cases a with
 |ad _ _ a=>exact .ad _ _ (h w ro c a)
inductive im:List a7->List a7->Prop where
 |nil:im [] []
 |cons {x y:a7} {xs ys:List a7}:oQ x y->im xs ys->im (x::xs) (y::ys)
theorem im.at{xs ys:List a7}(h:im xs ys):xs.length=ys.length/\∀(j:Nat) (y:a7),ys[j]? =some y->∃x,xs[j]? =some x/\oQ x y:=by
 induction h with
 |nil=>exact⟨rfl,by simp⟩|cons h _ bb=>
  refine⟨by simp[bb.1],λj y aj=>?_⟩
  cases j with
  |zero=>simp at aj;subst aj;exact⟨_,rfl,h⟩|succ j=>simpa using bb.2 j y (by simpa using aj)
inductive h1:List aC->List aC->Prop where
 |nil:h1 [] []
 |cons {x y:aC} {xs ys:List aC}:Sub x y->h1 xs ys->h1 (x::xs) (y::ys)
theorem h1.refl: ∀(l:List aC),h1 l l
 |[]=>.nil|x::r=>.cons (Sub.refl x) (h1.refl r)
theorem h1.at{xs ys:List aC}(h:h1 xs ys):xs.length=ys.length/\∀(j:Nat) (y:aC),ys[j]? =some y->∃x,xs[j]? =some x/\Sub x y:=by
 induction h with
 |nil=>exact⟨rfl,by simp⟩|cons h _ bb=>
  refine⟨by simp[bb.1],λj y aj=>?_⟩
  cases j with
  |zero=>simp at aj;subst aj;exact⟨_,rfl,h⟩|succ j=>simpa using bb.2 j y (by simpa using aj)
theorem im.cI{xs ys:List a7}(h:im xs ys):h1 (xs.map .ad) (ys.map .ad):=by
 induction h with
 |nil=>exact .nil|cons h _ bb=>exact .cons h.cI bb
theorem h1.agg{xs ys:List aC}(h:h1 xs ys):Sub (.agg xs) (.agg ys):=λw ro σ β N c a=>by
 cases a with
 |agg _ c aa ae=>
  refine .agg _ c (by rw[aa,h.at.1]) λj y aj=>?_
  obtain⟨x,hx,ao⟩:=h.at.2 j y aj;exact ao _ _ _ _ _ _ (ae j x hx)
theorem h1.tuple{xs ys:List aC}(h:h1 xs ys):Sub (.tuple xs) (.tuple ys):=λw ro σ β N c a=>by
 cases a with
 |tuple _ c aa ae=>
  refine .tuple _ c (by rw[aa,h.at.1]) λj y aj=>?_
  obtain⟨x,hx,ao⟩:=h.at.2 j y aj;exact ao _ _ _ _ _ _ (ae j x hx)
theorem zih{n:Nat}{w:World}{ro:Nat->Prop}{c:Value}(h:dq w ro (.v (.slice none 0 0)) c):dq w ro (.aq n []) c:=by
 cases h
 exact .aq n [] none 0 (λ_=>undef) (zZv _) (zXx _) (by simp) (by simp) (by simp)
theorem fa.sub{P:Program}{G:aV}{f:FuncId}{args vu:List aC}{σ:bK}{n:Nat}{r:aC}(h:fa P G f args σ n λv cu=>Sub v r/\cu=[])(ba:h1 vu args):fa P G f vu σ n λv cu=>v=r/\cu=[]:=by
 intro w β ro dY aa ae aw aN bx;refine Calls.mono (h w β ro dY (by rw[aa,ba.at.1]) (λi x hx=>?_) aw aN bx) λe w' aB=>?_
 ·obtain⟨y,aA,ao⟩:=ba.at.2 i x hx
  exact ao _ _ _ _ _ _ (ae i y aA)
 ·obtain⟨v,ji,cZ,cS,ro',b0,he,⟨ao,aJ⟩,dO,oN⟩:=aB
  exact⟨v,r,cZ,cS,ro',b0,he,⟨rfl,aJ⟩,ao _ _ _ _ _ _ dO,oN⟩
section
variable {P:Program} {G:aV} {o:Oper} {s:aS}
def pz(P:Program)(G:aV)(o:Oper)(s:aS)(v:aC):Prop:=
 ∀E a w β ro,dy E G s a w β ro->∃c,(∀bA,(execOp a.eval o).run P bA= .ok (.value c) bA)/\bN w ro s.heap β s.next v c
theorem pz.v{v:aC}(h:pz P G o s v):c8 P G o s v:=λE a w β ro ah=>by
 obtain⟨c,aa,ae⟩:=h E a w β ro ah;exact⟨c,aa w,ae⟩
theorem XA(i:bZ)(l:List (hY i))(k:IntKind)(z:Int){t:TypeId}{x y:Operand}(av:o.op= .indexAddr t x y)(aJ:lY P t=some (dE i))(aA:aR G s y= .ad (.v (.int k z)))(hx:aR G s x= .ad (.li i l))(aP:0<=z)(aa:z<l.length):
 pz P G o s (.ad (.ptr (dr i (l.getD z.toNat (aZ i))))):=λE a w β ro ah=>by
 have h:=ah.eval x;rw[hx]at h;generalize hc:a.eval x=c at h
 cases h with
 |ad _ _ h=>
  have h:=h.Jt;have aj:z.toNat<l.length:=by omega
  have he:(l.map (dr i))[z.toNat]? =some (dr i (l.getD z.toNat (aZ i))):=by
   rw[zYo,zZa aj,zZe,zZa aj];rfl
  obtain⟨dj,cap,rfl,ar⟩:=h.elem he;obtain⟨e,hu,b4⟩:=zg aJ;refine⟨_,λbA=>?_,.ad _ _ ar⟩;have ae:(0:Int)<=z/\z<(l.map (dr i)).length:=⟨aP,by rw[zXe];exact aa⟩
  simp[execOp,av,hc,ah.ef aA,Instr.indexAt,asIntOf,run_underlying hu,aP,aa,b4]
theorem Ju (i : bZ) (ls : List (hY i)) {t : TypeId} {x : Operand} {lo hi : Option Operand} (av : o.op = .slice t x lo hi none) (aJ : lY P t = some (dE i)) (hx : aR G s x = .ad (.li i ls)) {l h : Nat}
    (au : (lo = none /\ l = 0) \/ ∃ y k, lo = some y /\ aR G s y = .ad (.v (.int k (l : Int)))) (a8 : (hi = none /\ h = ls.length) \/ ∃ y k, hi = some y /\ aR G s y = .ad (.v (.int k (h : Int)))) (aa : l <= h) (ae : h <= ls.length) :
    pz P G o s (.ad (.li i ((ls.take h).drop l))) :=
  λ_ a w β ro ah => by
    obtain ⟨e, hu, b4⟩ := zg aJ;have ik := ah.eval x;rw [hx] at ik; generalize hc : a.eval x = c at ik
    cases ik with
    | ad _ _ ik =>
      have ik := ik.Jt;have OD : ((ls.take h).drop l).map (dr i) = (((ls.map (dr i)).take h).drop l) := by rw [List.map_drop, List.map_take]
      generalize Dn : ls.map (dr i) = es at ik OD;have q3 : es.length = ls.length := by rw [<- Dn, zXe]
      generalize zii : ((ls.take h).drop l).map (dr i) = fs at OD;have re : (es.take h).drop l = fs := OD.symm;rw [<- q3] at ae a8
      cases ik with
      | aq _ _ b cap f g1 g2 g3 g4 g5 =>
        have af := λbA : World => N6 (P := P) (cap := cap) (len := es.length) (isS := true) (lo := lo.map a.eval) (hi := hi.map a.eval) (mx := none) (l := l) (h := h) (m := cap) (.inl ⟨rfl, rfl⟩)
          (by rcases a8 with ⟨rfl, rfl⟩ | ⟨y, k, rfl, aA⟩
              · exact .inl ⟨rfl, rfl, rfl⟩
              · exact .inr ⟨k, by simp [ah.ef aA]⟩)
          (by rcases au with ⟨rfl, rfl⟩ | ⟨y, k, rfl, aA⟩
              · exact .inl ⟨rfl, rfl⟩
              · exact .inr ⟨k, by simp [ah.ef aA]⟩) aa (by omega) (zZv _) bA
        have hlen : fs.length = h - l := by rw [<- re]; simp; omega
        refine ⟨.slice (if cap = l then b else Option.map (λx => x.add (l * (dE i))) b) (h - l) (cap - l), λbA => ?_, .ad _ _ (.li _ _ _ ?_)⟩
        · simp only [execOp, av, Sem.run_bind, hc, Instr.sliceAt, run_underlying hu, Result.andThen_ok, Instr.slice, zXa, af, b4, Sem.run_pure]
        · rw [zii, <- hlen]
          have vr : ∀ e ∈ fs, e.length = (dE i) := λe he => g3 e (by rw [<- re] at he; exact zX8 (zWw he))
          have fM : ∀ i, i < fs.length -> fs[i]? = es[l + i]? := λi hi => by
            rw [<- re, List.getElem?_drop, zYk, if_pos (by omega)]
          refine .aq (dE i) fs _ (cap - l) (λj => f (l * (dE i) + j)) (by omega) (by omega) vr (λar => ?_) (λj x aj => ?_)
          · obtain ⟨dj, rfl, kF⟩ := g4 (by omega)
            refine ⟨dj.add (l * (dE i)), by rw [if_neg (by omega)]; rfl, λj aj => ?_⟩
            rw [w8, Bm]; refine kF _ ?_;have : (l + fs.length) * (dE i) <= es.length * (dE i) := zYb (dE i) (by omega)
            rw [zXv] at this; omega
          · have rb : 0 < (dE i) := by
              rcases Nat.eq_zero_or_pos (dE i) with aP | aP
              · have := (zZ1.1 aj).1
                rw [jZ vr, aP] at this; simp at this
              · exact aP
            have dv : j < fs.length * (dE i) := by have := (zZ1.1 aj).1; rwa [jZ vr] at this
            have hm : j = (j / (dE i)) * (dE i) + j % (dE i) := by rw [Nat.mul_comm]; exact (Nat.div_add_mod j (dE i)).symm
            have nj : j % (dE i) < (dE i) := Nat.mod_lt _ rb;have nk : j / (dE i) < fs.length := by rw [Nat.div_lt_iff_lt_mul rb]; exact dv
            have he : fs[j / (dE i)]? = some fs[j / (dE i)] := zZa nk;have pY := aj;rw [hm, q2 vr he (j % (dE i)) nj] at pY; refine g5 _ x ?_;have aE : l * (dE i) + j = (l + j / (dE i)) * (dE i) + j % (dE i) := by rw [zXv]; omega
            rw [aE, q2 g3 (i := l + j / (dE i)) (e := fs[j / (dE i)]) (by rw [<- fM _ nk]; exact he) (j % (dE i)) nj]
            exact pY
def oI(b:ByteArray)(z:Int):Int:=((b.data.toList.getD z.toNat 0).toNat:Int)
theorem zij(b:ByteArray)(k:IntKind)(z:Int){t:TypeId}{x y:Operand}(av:o.op= .index t x y)(aJ:P.underlying t=some .string)(aA:aR G s y= .ad (.v (.int k z)))(hx:aR G s x= .ad (.v (.string b)))(aP:0<=z)(aa:z<b.size):
 c8 P G o s (.ad (.v (.int .u8 (oI b z)))):=by
 obtain⟨j,rfl⟩: ∃j:Nat,z=(j:Int):=⟨z.toNat,by omega⟩
 have aj:j<b.data.toList.length:=by have:b.size=b.data.toList.length:=rfl;omega
 have he:b.data.toList[j]? =some (b.data.toList.getD j 0):=by
  rw[zZe,zZa aj];rfl
 exact WR t x y av aJ aA hx he
theorem zik(i:bZ)(l:List (hY i)){x:Operand}{t:TypeId}(av:o.op= .call {callee:=.builtin .len,args:=#[x],argTypes:=#[t]})(aJ:isSlice P t=true)(hx:aR G s x= .ad (.li i l)):c8 P G o s (.ad (.v (.int .i64 (l.length:Int)))):=
 λE a w β ro ah=>by
  have h:=ah.eval x;rw[hx]at h;generalize hc:a.eval x=c at h
  cases h with
  |ad _ _ h=>
   obtain⟨b,cap,rfl⟩:=h.Jt.WM;rw[zXe]at hc;unfold isSlice at aJ
   split at aJ
   ·rename_i e hu
    refine⟨.int .i64 l.length,?_,.fu rfl⟩;simp[execOp,av,resolve,invoke,builtin,hc,Builtin.len_,run_underlying hu,goInt]
   ·cases aJ
theorem zil{E:Entry}{a:Act}{w:World}{x:Operand}{i:bZ}{l:List (hY i)}(ah:Rel E G s a w)(hx:aR G s x= .ad (.li i l)):l.length<=9223372036854775807:=by
 obtain⟨β,ro,h⟩:=ah;have aa:=h.eval x;rw[hx]at aa;generalize a.eval x=c at aa
 cases aa with
 |ad _ _ aa=>
  have aa:=aa.Jt
  cases aa with
  |aq _ _ b cap f g1 g2=>
   have:maxLen=9223372036854775807:=by decide
   rw[zXe]at g1;omega
end
end Go.aH
namespace Go.aH
open Go
inductive bn (α:Type) where
 |emp
 |n (v:Option α) (l r:bn α)
section
variable {α:Type}
def bn.val:bn α->Option α
 | .emp=>none| .n v _ _=>v
def bn.lt:bn α->bn α
 | .emp=>.emp| .n _ l _=>l
def bn.rt:bn α->bn α
 | .emp=>.emp| .n _ _ r=>r
def bn.get:bn α->Nat->Option α
 | .emp,_=>none| .n v l r,k=>match zZu k 0 with
  |true=>v|false=>match zZu (zWt k 2) 1 with
   |true=>l.get (zWs k 2)|false=>r.get (zWr (zWs k 2) 1)
def bn.E5:Nat->bn α->Nat->α->bn α
 |0,t,_,_=>t|f+1,t,k,x=>match zZu k 0 with
  |true=>.n (some x) t.lt t.rt|false=>match zZu (zWt k 2) 1 with
   |true=>.n t.val (E5 f t.lt (zWs k 2) x) t.rt|false=>.n t.val t.lt (E5 f t.rt (zWr (zWs k 2) 1) x)
def bn.put(t:bn α)(k:Nat)(x:α):bn α:=E5 (k+1) t k x
theorem bn.zim(t:bn α)(k:Nat):t.get k=match zZu k 0 with
 |true=>t.val|false=>match zZu (zWt k 2) 1 with
  |true=>t.lt.get (zWs k 2)|false=>t.rt.get (zWr (zWs k 2) 1):=by
 cases t with
 |emp=>simp only[get,val,lt,rt];split<;>(try split)<;>rfl
 |n v l r=>simp only[get,val,lt,rt]
theorem tY(a b:Nat):zZu a b=decide (a=b):=by
 cases h:zZu a b with
 |true=>exact(decide_eq_true (Nat.eq_of_beq_eq_true h)).symm|false=>exact(decide_eq_false (Nat.ne_of_beq_eq_false h)).symm
theorem bn.OE: ∀(f:Nat) (t:bn α) (k j:Nat) (x:α),k<f->(E5 f t k x).get j=if k=j then some x else t.get j
 |0,_,_,_,_,h=>absurd h (Nat.not_lt_zero _)|f+1,t,k,j,x,h=>by
  have hd: ∀m:Nat,zWs m 2=m/ 2:=λ_=>rfl;have hm: ∀m:Nat,zWt m 2=m%2:=λ_=>rfl;have ao: ∀m n:Nat,zWr m n=m-n:=λ_ _=>rfl;rw[zim t j];simp only[E5,tY,hd,hm,ao]
  by_cases an:k=0
  ·simp only[an,decide_true,get,tY,hd,hm,ao]
   by_cases aj:j=0
   ·simp[aj]
   ·have pY: ¬0=j:=λe=>aj e.symm
    simp only[aj,decide_false,pY,if_false]
  ·simp only[an,decide_false]
   by_cases ar:k%2=1
   ·simp only[ar,decide_true,get,tY,hd,hm,ao]
    by_cases aj:j=0
    ·have: ¬k=j:=by omega
     simp only[aj,decide_true];rw[if_neg an]
    ·simp only[aj,decide_false]
     by_cases aB:j%2=1
     ·simp only[aB,decide_true]
      rw[OE f _ _ _ _ (by omega)]
      by_cases E6:k=j
      ·subst E6;simp
      ·have: ¬k/ 2=j/ 2:=by omega
       rw[if_neg E6,if_neg this]
     ·simp only[aB,decide_false]
      have: ¬k=j:=by omega
      rw[if_neg this]
   ·simp only[ar,decide_false,get,tY,hd,hm,ao]
    by_cases aj:j=0
    ·simp only[aj,decide_true];rw[if_neg an]
    ·simp only[aj,decide_false]
     by_cases aB:j%2=1
     ·simp only[aB,decide_true]
      have: ¬k=j:=by omega
      rw[if_neg this]
     ·simp only[aB,decide_false]
      rw[OE f _ _ _ _ (by omega)]
      by_cases E6:k=j
      ·subst E6;simp
      ·have: ¬k/ 2-1=j/ 2-1:=by omega
       rw[if_neg E6,if_neg this]
theorem bn.lu(t:bn α)(k j:Nat)(x:α):(t.put k x).get j=if k=j then some x else t.get j:=OE _ t k j x (zYi k)
end
abbrev Env:=bn aK
def Env.at(e:Env)(i:Nat):aK:=
 match bn.get e i with
 |some d=>d|none=>aK.d
theorem Env.mn(e:Env)(k j:Nat)(x:aK):Env.at (bn.put e k x) j=if k=j then x else Env.at e j:=by
 unfold Env.at
 rw[bn.lu]
 by_cases h:k=j<;>simp[h]
def cy(k:Nat)(e aD:Env):Prop:=∀i,i<k->Env.at aD i=Env.at e i
theorem cy.refl(k:Nat)(e:Env):cy k e e:=λ_ _=>rfl
theorem cy.trans{k m:Nat}{e aD E7:Env}(h:cy k e aD)(h':cy m aD E7)(an:k<=m):cy k e E7:=λi hi=>(h' i (zZw hi an)).trans (h i hi)
theorem cy.put{k j:Nat}{e:Env}{x:aK}(h:k<=j):cy k e (bn.put e j x):=λi hi=>by
 rw[Env.mn,if_neg (by omega)]
def jO(a b:a6):Bool:=decide (a=b)
theorem jr{a b:a6}(h:jO a b=true):a=b:=of_decide_eq_true h
inductive ag where
 |bE (r:a6) (i:Nat)
 |fd (c:bZ) (i k:Nat) (r:a6)
 |cs (x:Value)
 |ip (c:bZ) (i k:Nat)
 |cH (l:List ag)
 |tp (l:List ag)
 |fi (id off:Nat)
 |iM (id:Nat) (x:ag) (off:Nat)
 |aq (id:Nat)
 |fn (f:Fn) (a b:List ag)
 |jb (id:Nat)
 |hg (g:ag) (b:Bool) (x:ag)
 |mo (g off:Nat)
 |iY (id off:Nat) (x:ag) (n:Nat)
 |cM (id n:Nat)
 |gC (g:ag) (id:Option Nat) (off:Nat)
 |eE (t:TypeId) (agg:Bool) (rs:List a6) (l:List ag)
 |top
def BL(e:Env)(c:bZ)(i k:Nat)(r:a6):r.den:=((hN c ((Env.at e i).aI (.st c))).getD k aK.d).aI r
def ag.dyn(e:Env):ag->aK
 | .bE r i=>⟨r,(Env.at e i).aI r⟩| .fd c i k r=>⟨r,BL e c i k r⟩| .cs (.int k n)=>⟨.int k,n⟩| .cs (.bool b)=>⟨.bool,b⟩| .cs (.string s)=>⟨.str,s⟩|_=>aK.d
def ag.hh(e:Env):a6->ag->aK
 | .li c,.cs (.slice none 0 0)=>⟨.li c,[]⟩|_,x=>x.dyn e
def ag.aL(e:Env)(r:a6)(x:ag):r.den:=(x.hh e r).aI r
def ag.cells:ag->List ag
 | .cH l=>l|x=>[x]
def hG(e:Env):List a6->List ag->List aK
 |r::rs,x::xs=>⟨r,x.aL e r⟩::hG e rs xs|_,_=>[]
def ag.get(e:Env):(r:a6)->ag->r.den
 | .st c,x=>so c (hG e (fR c) x.cells)|r,x=>x.aL e r
def a6.one:a6->Bool
 | .int _=>true| .bool=>true| .str=>true| .li _=>true| .mp _ _=>true|_=>false
def a6.E8:a6->Bool
 | .li _=>true|_=>false
def ag.fN(r:a6):ag->Bool
 | .bE q _=>jO q r&&r.one| .fd _ _ _ q=>jO q r&&r.one| .cs (.int k _)=>jO (.int k) r| .cs (.bool _)=>jO .bool r| .cs (.string _)=>jO .str r| .cs (.slice none 0 0)=>r.E8|_=>false
def js:List a6->List ag->Bool
 |[],[]=>true|r::rs,x::xs=>x.fN r&&js rs xs|_,_=>false
def cQ(d:aK):Int:=
 match d with
 |⟨.int _,n⟩=>n|_=>0
mutual
def ag.den(G:aV)(e:Env):ag->aC
 | .bE r i=>.ad (hb r ((Env.at e i).aI r))| .fd c i k r=>.ad (hb r (BL e c i k r))| .cs x=>.ad (.v x)| .ip c i k=>.ad (.ptr ((dr c ((Env.at e i).aI (.st c))).drop k))| .cH l=>.agg (ag.cc G e l)| .tp l=>.tuple (ag.cc G e l)| .fi id off=>.ptr id off| .iM id x off=>.du id (cQ (x.dyn e)).toNat off| .aq id=>.aq id| .fn f a b=>.fn f (ag.cc G e a) (ag.cc G e b)| .jb id=>.ref id| .hg g b x=>match g.aL e .bool,b with
  |true,true=>ag.den G e x|false,false=>ag.den G e x|_,_=>.tuple []
 | .mo g off=>match G g with
  |some l=>.ad (.ptr (l.drop off))|none=>.top
 | .iY id off x n=>.ptr id (off+(cQ (x.dyn e)).toNat*n)| .cM id n=>.eb id n| .gC g id off=>match g.aL e .bool,id with
  |true,some id=>.ptr id off|true,none=>.top|false,_=>.ad (.v (.pointer none))
 | .eE t a rs l=>.ad (.eE t a ((hG e rs l).map aK.ad))| .top=>.top
def ag.cc(G:aV)(e:Env):List ag->List aC
 |[]=>[]|x::r=>ag.den G e x::ag.cc G e r
end
theorem gh(G:aV)(e:Env): ∀l:List ag,ag.cc G e l=l.map (ag.den G e)
 |[]=>rfl|x::r=>by simp[ag.cc,gh G e r]
mutual
def ag.lt(k:Nat):ag->Bool
 | .bE _ i=>zZs i k| .fd _ i _ _=>zZs i k| .ip _ i _=>zZs i k| .cH l=>ag.c6 k l| .tp l=>ag.c6 k l| .iM _ x _=>ag.lt k x| .iY _ _ x _=>ag.lt k x| .gC g _ _=>ag.lt k g| .fn _ a b=>ag.c6 k a&&ag.c6 k b| .hg g _ x=>ag.lt k g&&ag.lt k x| .eE _ _ _ l=>ag.c6 k l|_=>true
def ag.c6(k:Nat):List ag->Bool
 |[]=>true|x::r=>ag.lt k x&&ag.c6 k r
end
theorem fz{i k:Nat}(h:zZs i k=true):i<k:=zZq h
theorem nq{i k:Nat}(h:i<k):zZs i k=true:=Nat.ble_eq_true_of_le h
section
variable {G:aV} {k:Nat} {e aD:Env}
theorem XB(h:cy k e aD){c:bZ}{i j:Nat}{r:a6}(hi:i<k):BL aD c i j r=BL e c i j r:=by unfold BL;rw[h i hi]
theorem xi(h:cy k e aD){x:ag}(hx:x.lt k=true):x.dyn aD=x.dyn e:=by
 unfold ag.dyn
 split
 ·rw[h _ (fz (by simpa[ag.lt]using hx))]
 ·rw[XB h (fz (by simpa[ag.lt]using hx))]
 ·rfl
 ·rfl
 ·rfl
 ·rfl
theorem zin(h:cy k e aD){x:ag}{r:a6}(hx:x.lt k=true):x.hh aD r=x.hh e r:=by
 unfold ag.hh
 split
 ·rfl
 ·exact xi h hx
theorem fY(h:cy k e aD){x:ag}{r:a6}(hx:x.lt k=true):x.aL aD r=x.aL e r:=by
 unfold ag.aL;rw[zin h hx]
theorem OF(h:cy k e aD): ∀{rs:List a6} {l:List ag},ag.c6 k l=true->hG aD rs l=hG e rs l
 |[],_,_=>by simp[hG]|_::_,[],_=>by simp[hG]|r::rs,x::xs,hx=>by
  simp only[ag.c6,zZr]at hx;simp only[hG,fY h hx.1,OF h hx.2]
theorem zio{x:ag}(hx:x.lt k=true):ag.c6 k x.cells=true:=by
 cases x with
 |cH l=>exact hx|_=>simp only[ag.cells,ag.c6,Bool.and_true];exact hx
theorem zn(h:cy k e aD){x:ag}{r:a6}(hx:x.lt k=true):x.get aD r=x.get e r:=by
 unfold ag.get
 split
 ·rw[OF h (zio hx)]
 ·exact fY h hx
mutual
theorem xj(h:cy k e aD): ∀{x:ag},x.lt k=true->x.den G aD=x.den G e:=λ{x} hx=>by
 cases x with
 |bE r i=>simp only[ag.den,h i (fz hx)]|fd c i j r=>simp only[ag.den,XB h (fz (i:=i) hx)]|ip c i j=>simp only[ag.den,h i (fz hx)]|cH l=>simp only[ag.den,BM h (l:=l) hx]|tp l=>simp only[ag.den,BM h (l:=l) hx]|iM id x off=>simp only[ag.den,xi h (x:=x) hx]|iY id off x n=>simp only[ag.den,xi h (x:=x) hx]|gC g id off=>simp only[ag.den,fY h (x:=g) hx]|eE t a rs l=>simp only[ag.den,OF h (l:=l) hx]|fn f a b=>
  simp only[ag.lt,zZr]at hx;simp only[ag.den,BM h hx.1,BM h hx.2]
 |hg g b x=>
  simp only[ag.lt,zZr]at hx;simp only[ag.den,fY h hx.1,xj h hx.2]
 |_=>rfl
theorem BM(h:cy k e aD): ∀{l:List ag},ag.c6 k l=true->ag.cc G aD l=ag.cc G e l:=λ{l} au=>by
 match l with
 |[]=>rfl|x::r=>
  simp only[ag.c6,zZr]at au;simp only[ag.cc,xj h au.1,BM h au.2]
end
end
section
variable {G:aV} {e:Env}
theorem df(r:a6)(x:r.den):(⟨r,x⟩:aK).aI r=x:=by
 have:=E3 ⟨r,x⟩;simp only[aK.mk.injEq,heq_eq_eq,true_and]at this;exact this
def ag.isNil:ag->Bool
 | .cs (.slice none 0 0)=>true|_=>false
theorem XC{x:ag}{r:a6}(h:x.isNil=false):x.hh e r=x.dyn e:=by
 unfold ag.hh
 split
 ·cases h
 ·rfl
theorem Jv{r:a6}{x:ag}(h:x.fN r=true)(hn:x.isNil=false):x.den G e= .ad (hb r (x.aL e r)):=by
 unfold ag.aL;rw[XC hn]
 cases x with
 |bE q i=>
  simp only[ag.fN,zZr]at h
  cases jr h.1
  simp only[ag.den,ag.dyn,df]
 |fd c i k q=>
  simp only[ag.fN,zZr]at h
  cases jr h.1
  simp only[ag.den,ag.dyn,df]
 |cs x=>
  unfold ag.fN at h
  split at h
  ·simp_all
  ·simp_all
  ·rename_i hx;cases hx;cases jr h;simp only[ag.den,ag.dyn,df,hb,mP]
  ·rename_i hx;cases hx;cases jr h;simp only[ag.den,ag.dyn,df,hb,mP]
  ·rename_i hx;cases hx;cases jr h;simp only[ag.den,ag.dyn,df,hb,mP]
  ·rename_i hx;cases hx;cases hn
  ·cases h
 |_=>cases h
theorem BN{r:a6}{x:ag}(h:x.fN r=true)(ah:r.E8=false):x.den G e= .ad (hb r (x.aL e r)):=by
 cases hn:x.isNil with
 |false=>exact Jv h hn|true=>
  unfold ag.isNil at hn
  split at hn
  ·simp only[ag.fN,ah]at h;cases h
  ·cases hn
theorem zo{r:a6}{x:ag}(h:x.fN r=true):Sub (x.den G e) (.ad (hb r (x.aL e r))):=by
 cases hn:x.isNil with
 |false=>rw[Jv h hn];exact Sub.refl _|true=>
  unfold ag.isNil at hn
  split at hn
  ·cases r with
   |li c=>
    simp only[ag.den,ag.aL,ag.hh,df,hb,mP];exact oQ.cI λw ro rR hc=>.li _ _ _ (zih hc)
   |_=>cases h
  ·cases hn
theorem Jw{k:IntKind}{x:ag}(h:x.fN (.int k)=true):x.den G e= .ad (.v (.int k (x.aL e (.int k)))):=BN h rfl
theorem OG{x:ag}(h:x.fN .str=true):x.den G e= .ad (.v (.string (x.aL e .str))):=BN h rfl
theorem E9(G:aV)(e:Env): ∀{rs:List a6} {l:List ag},js rs l=true->(hG e rs l).map aK.r=rs/\h1 (ag.cc G e l) ((hG e rs l).map λd=>.ad d.ad)
 |[],[],_=>⟨rfl,.nil⟩|[],_::_,h=>by cases h
 |_::_,[],h=>by cases h
 |r::rs,x::xs,h=>by
  simp only[js,zZr]at h;obtain⟨aa,ae⟩:=E9 G e h.2;exact⟨by simp[hG,aa],.cons (zo h.1) ae⟩
theorem Fa{c:bZ}{l:List ag}(h:js (fR c) l=true):h1 (ag.cc G e l) ((dr c (so c (hG e (fR c) l))).map .ad):=by
 obtain⟨aa,ae⟩:=E9 G e h;unfold dr;rw[Jp c _ aa,zWq];exact ae
end
def k9(c:bZ)(i:Nat):Nat->List a6->List ag
 |_,[]=>[]|k,r::rs=>.fd c i k r::k9 c i (k+1) rs
theorem XD{G:aV}{e:Env}{c:bZ}{i:Nat}: ∀{rs:List a6} {k:Nat} {ds:List aK},ds.map aK.r=rs->(∀j,ds[j]? =(hN c ((Env.at e i).aI (.st c)))[k+j]?)->ag.cc G e (k9 c i k rs)=ds.map λd=>.ad d.ad
 |[],k,ds,h,_=>by cases py h;rfl
 |r::rs,k,ds,h,hd=>by
  obtain⟨d,sr,rfl,aa,ae⟩:=oP h;have aP:=hd 0;simp only[zXb,zYh]at aP;simp only[k9,ag.cc,ag.den,zXq,List.cons.injEq,aC.ad.injEq];refine⟨?_,XD ae λj=>?_⟩
  ·unfold BL aK.ad
   rw[zZe,<-aP];subst aa;simp only[Option.getD_some]
   congr 1
   have:=E3 d;exact eq_of_heq ((aK.mk.injEq _ _ _ _).mp this).2
  ·have:=hd (j+1)
   rw[List.getElem?_cons_succ]at this;rw[this]
   congr 1
   omega
theorem xk{G:aV}{e:Env}{c:bZ}{i:Nat}:ag.cc G e (k9 c i 0 (fR c))=(dr c ((Env.at e i).aI (.st c))).map .ad:=by
 rw[XD (ds:=hN c ((Env.at e i).aI (.st c))) (Oo c _) (λj=>by rw[zZ0])]
 unfold dr;rw[zWq];rfl
end Go.aH
