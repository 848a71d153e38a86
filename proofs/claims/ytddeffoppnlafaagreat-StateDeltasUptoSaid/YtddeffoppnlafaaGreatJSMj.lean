/- Conditions: none. -/
import Derived.Test.YtddeffoppnlafaaGreatJSMf
open Array renaming getD_eq_getD_getElem?->zYf,getElem?_eq_some_iff->zYu,mapM_eq_mapM_toList->zY5,range->zXz
open Bool renaming and_eq_true->zZr
open Classical renaming epsilon->zY0,epsilon_spec->zY3,not_forall->zY2
open List renaming all_eq_true->zZ2,eq_nil_of_length_eq_zero->zY6,getD->zZ8,getElem?_eq_some_iff->zZ1,getElem?_map->zYo,getElem?_take->zYk,mapM_cons->zY4,mem_of_getElem?->zZ4,mem_replicate->zY9,replicate->zZz
open Nat renaming add_assoc->zYw,add_sub_cancel_left->zY7,beq->zZu,le_add_right->zY8,le_refl->zZv,le_trans->zZx,lt_of_lt_of_le->zZw,strongRecOn->zY1,succ_mul->zYp
open Option.some renaming injEq->zYt
namespace Go.aH
open Go
def lift(E:Entry)(G:aV)(Q:Exit->aS->Prop):Exit->Act->World->Prop:=λe a w=>∃s,Q e s/\Rel E G s a w
def cb(P:Program)(G:aV)(c:Code)(Q:Exit->aS->Prop)(s:aS):Prop:=∀E a w,Rel E G s a w->c.wp P (lift E G Q) a w
def c9(P:Program)(G:aV)(ops:Array Oper)(Q:Exit->aS->Prop)(l:List Oper)(s:aS):Prop:=∀E a w,Rel E G s a w->wpList P ops (lift E G Q) l a w
section
variable {P:Program} {G:aV} {Q:Exit->aS->Prop} {s:aS}
theorem cb.region{id:Nat}{l:List Oper}(h:c9 P G l.toArray Q l s):cb P G (.region id l.toArray false) Q s:=λE a w ah=>wp_region_lit (h E a w ah)
theorem c9.nil{ops:Array Oper}(h:Q .normal s):c9 P G ops Q [] s:=λ_ _ _ ah=>wpList_nil ⟨s,h,ah⟩
theorem c9.cons{ops:Array Oper}{o:Oper}{rest:List Oper}{s':aS}(ai:o.guard=none)(h:eL P G o s s')(k:c9 P G ops Q rest s'):c9 P G ops Q (o::rest) s:=
 λE a w ah=>wpList_plain ai λ_ hK=>h E a w ah _ _ λbo w' dW=>hK bo w' (k E bo w' dW)
def ov(ops:Array Oper)(j:Nat):Option Nat:=(ops[j]?).bind (·.dst)
theorem NP{ops:Array Oper}{E:Entry}{a:Act}{w:World}(ah:Rel E G s a w){j d:Nat}(aj:ov ops j=some d){b:Bool}(hd:s.dn[d]? =some (.ad (.v (.bool b)))):yielded ops a.tmps j=some b:=by
 obtain⟨β,ro,h⟩:=ah;have ao:=bN.val (h.slot d _ hd);have bR:d<a.tmps.size:=by rw[h.size];exact(zZ1.1 hd).1
 unfold ov at aj;unfold yielded;rw[aj];simp only[Option.bind_some];simp[bR]at ao;simp[bR,ao]
theorem WH{ops:Array Oper}{E:Entry}{a:Act}{w:World}(ah:Rel E G s a w){j d:Nat}(aj:ov ops j=some d){cs:List aC}(hd:s.dn[d]? =some (.tuple cs)):yielded ops a.tmps j=none:=by
 obtain⟨β,ro,h⟩:=ah;have ao:=h.slot d _ hd;have bR:d<a.tmps.size:=by rw[h.size];exact(zZ1.1 hd).1
 unfold ov at aj;unfold yielded;rw[aj];simp only[Option.bind_some];simp[bR]at ao;generalize a.tmps[d]=c at ao;have aB:a.tmps[d]? =some a.tmps[d]:=by simp[bR]
 have ao:=h.slot d _ hd;simp[bR]at ao
 cases gr:a.tmps[d]with
 |tuple x=>simp[aB,gr]|_=>rw[gr]at ao;cases ao
theorem c9.guarded{ops:Array Oper}{o:Oper}{rest:List Oper}{s':aS}{j d:Nat}{b:Bool}(ai:o.guard=some (j,b))(aj:ov ops j=some d)(hd:s.dn[d]? =some (.ad (.v (.bool b))))
 (h:eL P G o s s')(k:c9 P G ops Q rest s'):c9 P G ops Q (o::rest) s:=
 λE a w ah=>wpList_step λ_ hK=>by
  have aA:=NP ah aj hd;simp only[Region.wanted,ai,aA,beq_self_eq_true,if_true];exact h E a w ah _ _ λbo w' dW=>hK bo w' (k E bo w' dW)
theorem Rel.AJ{E:Entry}{a:Act}{w:World}(ah:Rel E G s a w)(dst:Option Nat):Rel E G (s.put dst (.tuple [])) (a.put dst undef) w:=by
 obtain⟨β,ro,h⟩:=ah;exact⟨β,ro,h.put dst _ _ (.tuple _ _ rfl (by simp))⟩
theorem c9.zg4{ops:Array Oper}{o:Oper}{rest:List Oper}{j d:Nat}{b:Bool}(ai:o.guard=some (j,b))(aj:ov ops j=some d)(hd:s.dn[d]? =some (.ad (.v (.bool (!b)))))
 (k:c9 P G ops Q rest (s.put o.dst (.tuple []))):c9 P G ops Q (o::rest) s:=
 λE a w ah=>by
  have aA:=NP ah aj hd;refine wpList_skip ?_ (k E _ w (ah.AJ o.dst));simp only[Region.wanted,ai,aA]
  cases b<;>rfl
theorem c9.zg5{ops:Array Oper}{o:Oper}{rest:List Oper}{j d:Nat}{b:Bool}(ai:o.guard=some (j,b))(aj:ov ops j=some d){cs:List aC}(hd:s.dn[d]? =some (.tuple cs))
 (k:c9 P G ops Q rest (s.put o.dst (.tuple []))):c9 P G ops Q (o::rest) s:=
 λE a w ah=>by
  have aA:=WH ah aj hd;refine wpList_skip ?_ (k E _ w (ah.AJ o.dst));simp only[Region.wanted,ai,aA]
  cases b<;>rfl
def zg6(P:Program)(G:aV)(c:Code)(Q:Exit->aS->Prop):Exit->aS->Prop
 | .normal,s=>cb P G c Q s|e,s=>Q e s
theorem cb.seq{x y:Code}(h:cb P G x (zg6 P G y Q) s):cb P G (.seq x y) Q s:=λE a w ah=>by
 refine wp_seq (wp_mono (h E a w ah) λe bo w' aB=>?_);obtain⟨s',aa,ae⟩:=aB
 cases e with
 |normal=>exact aa E bo w' ae|_=>exact⟨s',aa,ae⟩
theorem cb.cond{x:Operand}{c d:Code}{b:Bool}(hx:aR G s x= .ad (.v (.bool b)))(aJ:b=true->cb P G c Q s)(hf:b=false->cb P G d Q s):cb P G (.cond x c d) Q s:=λE a w ah=>by
 obtain⟨β,ro,h⟩:=ah;exact wp_cond_split (h.ef hx) (λe=>aJ e E a w ⟨β,ro,h⟩) (λe=>hf e E a w ⟨β,ro,h⟩)
theorem cb.MI{x:Operand}{c d:Code}(hx:aR G s x= .ad (.v (.bool true)))(aJ:cb P G c Q s):cb P G (.cond x c d) Q s:=cb.cond hx (λ_=>aJ) (λh=>by cases h)
theorem cb.MJ{x:Operand}{c d:Code}(hx:aR G s x= .ad (.v (.bool false)))(hf:cb P G d Q s):cb P G (.cond x c d) Q s:=cb.cond hx (λh=>by cases h) (λ_=>hf)
theorem cb.skip(h:Q .normal s):cb P G .skip Q s:=λ_ _ _ ah=>wp_skip ⟨s,h,ah⟩
theorem cb.ret(h:Q .ret s):cb P G .ret Q s:=λ_ _ _ ah=>wp_ret ⟨s,h,ah⟩
theorem cb.exit{id:Nat}(h:Q (.exit id) s):cb P G (.exit id) Q s:=λ_ _ _ ah=>wp_exit ⟨s,h,ah⟩
theorem cb.mono{c:Code}{Q':Exit->aS->Prop}(h:cb P G c Q s)(aB: ∀e s,Q e s->Q' e s):cb P G c Q' s:=λE a w ah=>
 wp_mono (h E a w ah) λe _ _ ⟨s',aa,ae⟩=>⟨s',aB e s' aa,ae⟩
def HA(id:Nat)(Q:Exit->aS->Prop):Exit->aS->Prop
 | .exit jn,s=>bif zZu jn id then Q .normal s else Q (.exit jn) s|e,s=>Q e s
theorem cb.block{id:Nat}{c:Code}(h:cb P G c (HA id Q) s):cb P G (.block id c) Q s:=λE a w ah=>by
 refine wp_block (wp_mono (h E a w ah) λe bo w' aB=>?_);obtain⟨s',aa,ae⟩:=aB
 cases e with
 |exit jn=>
  simp only[HA,Exit.inBlock]at*
  split
  ·rename_i he
   have af:zZu jn id=true:=by simpa using he
   rw[af]at aa;exact⟨s',aa,ae⟩
  ·rename_i he
   have af:zZu jn id=false:=by
    cases aB:zZu jn id with
    |false=>rfl|true=>exact absurd (Nat.eq_of_beq_eq_true aB) he
   rw[af]at aa;exact⟨s',aa,ae⟩
 |_=>exact⟨s',aa,ae⟩
def b5(s s':aS):Prop:=∀E (G:aV) a w,Rel E G s a w->Rel E G s' a w
theorem b5.refl(s:aS):b5 s s:=λ_ _ _ _ h=>h
theorem b5.trans{s s' WI:aS}(h:b5 s s')(k:b5 s' WI):b5 s WI:=λE G a w ah=>k E G a w (h E G a w ah)
theorem cb.le{c:Code}{s':aS}(h:b5 s s')(k:cb P G c Q s'):cb P G c Q s:=λE a w ah=>k E a w (h E G a w ah)
theorem c9.le{ops:Array Oper}{l:List Oper}{s':aS}(h:b5 s s')(k:c9 P G ops Q l s'):c9 P G ops Q l s:=λE a w ah=>k E a w (h E G a w ah)
theorem cb.loop{ι:Type}(st:ι->aS)(inv:ι->Prop)(mu:ι->Nat){c:Code}(x:ι)(aP:b5 s (st x))(hi:inv x)
    (round: ∀x,inv x->cb P G c (λe s'=>match e with
      | .normal=>∃y,inv y/\mu y<mu x/\b5 s' (st y)
      |e=>Q e s') (st x)):cb P G (.loop c) Q s:=λE a w ah=>by
  have key: ∀n x,mu x=n->inv x->∀a w,Rel E G (st x) a w->(Code.loop c).wp P (lift E G Q) a w:=by
    intro n x hn hx a w ah;refine wp_loop (λa w=>∃y,inv y/\Rel E G (st y) a w) (λa w=>zY0 λm=>∃y,inv y/\Rel E G (st y) a w/\mu y=m/\∀z,inv z->Rel E G (st z) a w->m<=mu z) ⟨x,hx,ah⟩ ?_;intro a w ⟨ft,Ja,zg7⟩
    have hex: ∃m,∃y,inv y/\Rel E G (st y) a w/\mu y=m/\∀z,inv z->Rel E G (st z) a w->m<=mu z:=by
      have: ∀k y,mu y=k->inv y->Rel E G (st y) a w->∃m,∃y,inv y/\Rel E G (st y) a w/\mu y=m/\∀z,inv z->Rel E G (st z) a w->m<=mu z:=by
        intro k
        induction k using zY1 with
        |_ k bb=>
          intro y an aA EN
          by_cases vn: ∀z,inv z->Rel E G (st z) a w->mu y<=mu z
          · exact⟨mu y,y,aA,EN,rfl,vn⟩
          · simp only[zY2]at vn
            obtain⟨z,aW,pr,bR⟩:=vn;exact bb (mu z) (by omega) z rfl aW pr
      exact this _ ft rfl Ja zg7
    obtain⟨y,aA,EN,zg8,_⟩:=zY3 hex;refine wp_mono (round y aA E a w EN) λe bo w' aB=>?_;obtain⟨s',aa,ae⟩:=aB
    cases e with
    |normal=>
      obtain⟨z,aW,bR,hle⟩:=aa;have pr:=hle E G bo w' ae;refine⟨⟨z,aW,pr⟩,?_⟩
      have zg9: ∃m,∃y,inv y/\Rel E G (st y) bo w'/\mu y=m/\∀z,inv z->Rel E G (st z) bo w'->m<=mu z:=by
        have: ∀k y,mu y=k->inv y->Rel E G (st y) bo w'->∃m,∃y,inv y/\Rel E G (st y) bo w'/\mu y=m/\∀z,inv z->Rel E G (st z) bo w'->m<=mu z:=by
          intro k
          induction k using zY1 with
          |_ k bb=>
            intro y an aA EN
            by_cases vn: ∀z,inv z->Rel E G (st z) bo w'->mu y<=mu z
            · exact⟨mu y,y,aA,EN,rfl,vn⟩
            · simp only[zY2]at vn
              obtain⟨z,aW,pr,bR⟩:=vn;exact bb (mu z) (by omega) z rfl aW pr
        exact this _ z rfl aW pr
      obtain⟨_,_,_,_,vn⟩:=zY3 zg9;have aw:=vn z aW pr;rw[<-zg8];exact Nat.lt_of_le_of_lt aw bR
    |_=>exact⟨s',aa,ae⟩
  exact key _ x rfl hi a w (aP E G a w ah)
end
def fa(P:Program)(G:aV)(f:FuncId)(args:List aC)(σ:bK)(n:Nat)(Q:aC->bK->Prop):Prop:=
 ∀w β ro (dY:Array Value),dY.size=args.length->(∀i x,args[i]? =some x->bN w ro σ β n x (dY.getD i undef))->hA w ro σ β n->qI w ro G->(∀id o,aF σ id=some o->id<n)->
  Calls P f dY w λe w'=>∃v r cZ cS ro' b0,e= .returned v/\Q r cZ/\bN w' ro' cZ cS b0 r v/\hA w' ro' cZ cS b0/\Trans ⟨w,ro,σ,β,n,[]⟩ w' ro' cZ cS b0
def qf(P:Program)(s:aS):List ResultVar->Option (List aC)
 |[]=>some []| .tmp t::r=>match qf P s r with
  |some l=>some (s.dn.getD t .top::l)|none=>none
 | .cell p t::r=>match qf P s r,gj s.heap (s.dn.getD p .top)with
  |some l,some cs=>match nF P t with
   |some n=>if n<=cs.length/\0<n then some (.agg (cs.take n)::l)else none
   |none=>if scalar P t then match cs with
    |y::_=>some (y::l)|[]=>none
    else none
  |_,_=>none
def tk(P:Program)(fn:Func)(s:aS):Option aC:=
 match qf P s fn.results.toList with
 |some [x]=>some x|some l=>some (.tuple l)|none=>none
def zha(P:Program)(fn:Func)(Q:aC->bK->Prop):Exit->aS->Prop:=λe s=>
 (e= .normal\/e= .ret)/\∃r cZ,tk P fn s=some r/\(∀id o,aF cZ id=some o->aF s.heap id=some o)/\Q r cZ
theorem hA.sub{w:World}{ro:Nat->Prop}{σ cZ:bK}{β:Nat->Value}{N:Nat}(h:hA w ro σ β N)(ao: ∀id o,aF cZ id=some o->aF σ id=some o):hA w ro cZ β N:=by
 refine⟨λid o ai=>(h.dB id o (ao id o ai)).keep (λ_ _=>rfl) (λ_ h=>h) (zZv _) (zZv _) rfl (λ_ _ _=>rfl) (λid t cs ai=>⟨rfl,t,cs,ao id _ ai⟩) (λid z t n es ai=>⟨rfl,z,t,es,ao id _ ai⟩) (λid bU ai=>⟨rfl,bU,ao id _ ai⟩),
  λid jn o ct b aa ae=>h.inj id jn o ct b (ao id o aa) (ao jn ct ae),λb af ⟨id,o,ai,au,bp⟩=>h.fy b af ⟨id,o,ao id o ai,au,bp⟩,h.lt⟩
theorem bN.sub{w:World}{ro:Nat->Prop}{σ cZ:bK}{β:Nat->Value}{N:Nat}{x:aC}{c:Value}(h:bN w ro σ β N x c)(ao: ∀id o,aF cZ id=some o->aF σ id=some o):bN w ro cZ β N x c:=
 h.keep (λ_ _=>rfl) (λ_ h=>h) (zZv _) (λid t cs ai=>⟨rfl,t,cs,ao id _ ai⟩) (λid z t _ es ai=>⟨rfl,z,t,es,ao id _ ai⟩) (λid bU ai=>⟨rfl,bU,ao id _ ai⟩)
theorem Trans.sub{E:Entry}{w:World}{ro:Nat->Prop}{σ cZ:bK}{β:Nat->Value}{n:Nat}(h:Trans E w ro σ β n)(ao: ∀id o,aF cZ id=some o->aF σ id=some o):Trans E w ro cZ β n:=
 ⟨h.os,h.tape,h.output,h.size,h.frame,h.h9,h.hp,λb ⟨id,o,ai,au,bp⟩=>h.gG b ⟨id,o,ao id o ai,au,bp⟩,λid hi o ai=>h.er id hi o (ao id o ai),λid o ai=>h.new id o (ao id o ai),h.le⟩
section
variable {P:Program} {G:aV}
def ze(tmps:Array Value):ResultVar->Sem Value
 | .tmp t=>pure (tmps.getD t undef)| .cell p t=>do
  let b <-asAddr (tmps.getD p undef)
  loadVar t b
theorem zhb(fn:Func)(tmps:Array Value):results fn tmps=(do
    let vs <-fn.results.mapM (ze tmps)
    pure (if h:vs.size=1 then vs[0]else .tuple vs)):=by
  unfold results
  have:(λx=>match x with
      |ResultVar.tmp t=>(pure (tmps.getD t undef):Sem Value)|ResultVar.cell p t=>do
        let b <-asAddr (tmps.getD p undef)
        loadVar t b)=ze tmps:=by
    funext x
    cases x<;>rfl
  rw[<-this];rfl
theorem NQ{E:Entry}{s:aS}{a:Act}{w:World}{β:Nat->Value}{ro:Nat->Prop}(h:dy E G s a w β ro): ∀{rs:List ResultVar} {l:List aC},qf P s rs=some l->
 ∃vs:List Value,(rs.mapM (ze a.tmps)).run P w= .ok vs w/\vs.length=l.length/\∀j x,l[j]? =some x->bN w ro s.heap β s.next x (vs.getD j undef)
 |[],l,au=>by
  simp[qf]at au;subst au;exact⟨[],by simp,rfl,by simp⟩
 | .tmp t::r,l,au=>by
  simp only[qf]at au
  cases ah:qf P s r with
  |none=>simp[ah]at au|some dF=>
   simp only[ah,zYt]at au;subst au;obtain⟨vs,aa,ae,aw⟩:=NQ h ah;refine⟨a.tmps.getD t undef::vs,by simp only[zY4,Sem.run_bind,ze,Sem.run_pure,Result.andThen_ok,aa],by simp[ae],λj x aj=>?_⟩
   cases j with
   |zero=>
    simp at aj;subst aj;exact h.eval (.tmp t)
   |succ j=>exact aw j x aj
 | .cell p t::r,l,au=>by
  simp only[qf]at au
  cases ah:qf P s r with
  |none=>simp[ah]at au|some dF=>
   cases hc:gj s.heap (s.dn.getD p .top)with
   |none=>rw[ah,hc]at au;cases au
   |some cs=>
    rw[ah,hc]at au;simp only at au;obtain⟨vs,aa,ae,aw⟩:=NQ h ah;have dh:=h.eval (.tmp p);simp only[aR,Act.eval]at dh
    cases ck:nF P t with
    |some n=>
     simp only[ck]at au
     split at au
     ·rename_i hn
      simp only[zYt]at au;subst au;obtain⟨dj,zf,f,hf⟩:=Bo h.heap hc dh (by intro e;subst e;simp at hn;omega)
      obtain⟨g1,g2⟩:=I2 ck w;have pt:=run_loadCells (P:=P) w dj n f (λj aj=>(hf j (cs[j]'(by omega)) (by simp)).1)
      refine⟨.agg ((List.range n).map f).toArray::vs,?_,by simp[ae],λj x aj=>?_⟩
      ·simp only[zY4,Sem.run_bind,ze,zf,asAddr,Sem.run_pure,Result.andThen_ok,loadVar,g1,g2,if_true,pt,aa]
      ·cases j with
       |zero=>
        simp at aj;subst aj;refine .agg _ _ (by simp;omega) λj y aj=>?_
        rw[zYk]at aj
        split at aj
        ·have:=(hf j y aj).2
         rename_i sd;simpa[sd]using this
        ·cases aj
       |succ j=>exact aw j x aj
     ·cases au
    |none=>
     simp only[ck]at au
     split at au
     ·rename_i hsc
      cases cs with
      |nil=>simp at au|cons y cs'=>
       simp only[zYt]at au;subst au;obtain⟨dj,zf,f,hf⟩:=Bo h.heap hc dh (by simp)
       have g1:=AB hsc w;obtain⟨kF,dO⟩:=hf 0 y rfl;rw[show dj.add 0=dj from by simp[Addr.add]]at kF
       refine⟨f 0::vs,?_,by simp[ae],λj x aj=>?_⟩
       ·simp only[zY4,Sem.run_bind,ze,zf,asAddr,Sem.run_pure,Result.andThen_ok,loadVar,g1]
        simp[run_load,kF,aa]
       ·cases j with
        |zero=>simp at aj;subst aj;exact dO|succ j=>exact aw j x aj
     ·cases au
theorem G1{E:Entry}{s:aS}{a:Act}{w:World}{β:Nat->Value}{ro:Nat->Prop}(h:dy E G s a w β ro){fn:Func}{r:aC}(ah:tk P fn s=some r):
 ∃v,(results fn a.tmps).run P w= .ok v w/\bN w ro s.heap β s.next r v:=by
 unfold tk at ah
 cases ba:qf P s fn.results.toList with
 |none=>simp[ba]at ah|some l=>
  rw[ba]at ah;obtain⟨vs,aa,ae,aw⟩:=NQ h ba
  have hm:(fn.results.mapM (ze a.tmps)).run P w= .ok vs.toArray w:=by
   rw[zY5];simp only[Sem.run_map,aa]
   first|rfl|simp
  have ly:(results fn a.tmps).run P w= .ok (if h:vs.toArray.size=1 then vs.toArray[0]else .tuple vs.toArray) w:=by
   rw[zhb,Sem.run_bind,hm];rfl
  refine⟨_,ly,?_⟩
  match l,ba,ah,ae,aw with
  |[x],_,ah,ae,aw=>
   injection ah with ah
   subst ah;have q7:vs.toArray.size=1:=by simpa using ae
   rw[dif_pos q7];have:=aw 0 x rfl;have Jb:0<vs.length:=by simp at q7;omega
   simpa[zZ8,Jb]using this
  |[],_,ah,ae,aw=>
   injection ah with ah
   subst ah;have:vs=[]:=zY6 (by simpa using ae)
   subst this;exact .tuple _ _ rfl (by simp)
  |x::y::dF,_,ah,ae,aw=>
   injection ah with ah
   subst ah;rw[dif_neg (by simp at ae⊢;omega)]
   refine .tuple _ _ (by simpa using ae) λj z aj=>?_
   have:=aw j z aj;simpa[zZ8,zYf]using this
theorem fa.zhc{f:FuncId}{fn:Func}{c:Code}{args:List aC}{σ:bK}{n k:Nat}{Q:aC->bK->Prop}(hf:P.funcs[f]? =some fn)(af:fn.body=some c)(an:fn.ntmps-args.length=k)
 (h:cb P G c (zha P fn Q) ⟨args++zZz k .top,σ,n,n⟩):fa P G f args σ n Q:=by
 intro w β ro dY b4 jV a8 ai bR;refine calls_of_wp hf af (wp_mono (h ⟨w,ro,σ,β,n,[]⟩ _ w ⟨β,ro,rfl,?_,?_,a8,ai,?_,zZv _⟩) ?_)
 ·simp[b4,an]
 ·intro i x hi
  simp only at hi
  by_cases yb:i<args.length
  ·rw[List.getElem?_append_left yb]at hi
   have:=jV i x hi;have aa:i<dY.size:=by omega
   simpa[Array.getElem?_append_left aa,aa,Array.getElem_append_left aa]using this
  ·rw[List.getElem?_append_right (by omega)]at hi
   rw[List.getElem?_replicate]at hi
   split at hi
   ·simp only[zYt]at hi;subst hi;exact .top _
   ·cases hi
 ·exact⟨rfl,rfl,rfl,zZv _,λ_ _ _=>rfl,λ_ h=>.inl h,λ_ h=>h,λ_ h=>.inl h,λid _ o av=>⟨by rw[av];simp,rfl⟩,bR,zZv _⟩
 ·intro e bo w' ⟨s',aB,cS,ro',ah⟩
  obtain⟨he,r,cZ,ly,gb,ez⟩:=aB;obtain⟨v,az,dO⟩:=G1 ah ly
  rcases he with rfl|rfl
  ·exact⟨ah.defers,v,az,v,r,cZ,cS,ro',s'.next,rfl,ez,dO.sub gb,ah.heap.sub gb,ah.trans.sub gb⟩
  ·exact⟨ah.defers,v,az,v,r,cZ,cS,ro',s'.next,rfl,ez,dO.sub gb,ah.heap.sub gb,ah.trans.sub gb⟩
end
end Go.aH
namespace Go.aH
open Go
mutual
def jh(n:Nat):aC->Bool
 | .ad _=>true| .agg cs=>pv n cs| .tuple cs=>pv n cs| .ptr id _=>decide (id<n)| .eb id _=>decide (id<n)| .du id _ _=>decide (id<n)| .aq id=>decide (id<n)| .fn _ p q=>pv n p&&pv n q| .ref id=>decide (id<n)| .top=>true
def pv(n:Nat):List aC->Bool
 |[]=>true|x::r=>jh n x&&pv n r
end
theorem tu{n:Nat}: ∀{cs:List aC},pv n cs=true->∀{j:Nat} {x:aC},cs[j]? =some x->jh n x=true
 |[],_,j,x,h=>by simp at h|y::r,af,j,x,h=>by
  simp only[pv,zZr]at af
  cases j with
  |zero=>simp at h;subst h;exact af.1|succ j=>simp at h;exact tu af.2 h
theorem bN.lower{w:World}{ro:Nat->Prop}{σ:bK}{β:Nat->Value}{N oq:Nat}{x:aC}{c:Value}(h:bN w ro σ β N x c)(af:jh oq x=true):bN w ro σ β oq x c:=by
 induction h with
 |ad x c hx=>exact .ad x c hx|agg cs c ao _ bb=>
  simp only[jh]at af;exact .agg cs c ao λj x aj=>bb j x aj (tu af aj)
 |tuple cs c ao _ bb=>
  simp only[jh]at af;exact .tuple cs c ao λj x aj=>bb j x aj (tu af aj)
 |ptr id off c au ar=>exact .ptr id off c (by simpa[jh]using af) ar|eb id off c au ar=>exact .eb id off c (by simpa[jh]using af) ar|du id i off c au ar=>exact .du id i off c (by simpa[jh]using af) ar|aq id c au ar=>exact .aq id c (by simpa[jh]using af) ar|fn f p q c d aa ae _ _ h7 h8=>
  simp only[jh,zZr]at af;exact .fn f p q c d aa ae (λj x aj=>h7 j x aj (tu af.1 aj)) (λj x aj=>h8 j x aj (tu af.2 aj))
 |ref id c au ar=>exact .ref id c (by simpa[jh]using af) ar|top c=>exact .top c
def Bu(σ:bK):List Nat->bK
 |[]=>[]|id::r=>match aF σ id with
  |some o=>(id,o)::Bu σ r|none=>Bu σ r
theorem NR(σ:bK): ∀(ids:List Nat) (id:Nat) (o:ey),aF (Bu σ ids) id=some o->aF σ id=some o
 |[],id,o,h=>by simp[Bu,aF]at h|k::r,id,o,h=>by
  simp only[Bu]at h
  cases an:aF σ k with
  |none=>rw[an]at h;exact NR σ r id o h|some p=>
   rw[an]at h;simp only[aF]at h
   split at h
   ·rename_i he
    subst he;rw[an];exact h
   ·exact NR σ r id o h
def l1(n:Nat):bK->Bool
 |[]=>true|(id,.box _ cs)::r=>decide (id<n)&&pv n cs&&l1 n r|(id,.row _ _ _ _)::r=>decide (id<n)&&l1 n r|(id,.bW _)::r=>decide (id<n)&&l1 n r
theorem rY{n:Nat}: ∀{σ:bK},l1 n σ=true->∀{id:Nat} {o:ey},aF σ id=some o->id<n/\∀t cs,o= .box t cs->pv n cs=true
 |[],_,id,o,h=>by simp[aF]at h|(k,.box t cs)::r,af,id,o,h=>by
  simp only[l1,zZr,decide_eq_true_eq]at af;simp only[aF]at h
  split at h
  ·rename_i he
   subst he;simp only[zYt]at h;subst h;exact⟨af.1.1,λbr cs' he=>by cases he;exact af.1.2⟩
  ·exact rY af.2 h
 |(k,.row z t m es)::r,af,id,o,h=>by
  simp only[l1,zZr,decide_eq_true_eq]at af;simp only[aF]at h
  split at h
  ·rename_i he
   subst he;simp only[zYt]at h;subst h;exact⟨af.1,λbr cs' he=>by cases he⟩
  ·exact rY af.2 h
 |(k,.bW bU)::r,af,id,o,h=>by
  simp only[l1,zZr,decide_eq_true_eq]at af;simp only[aF]at h
  split at h
  ·rename_i he
   subst he;simp only[zYt]at h;subst h;exact⟨af.1,λbr cs' he=>by cases he⟩
  ·exact rY af.2 h
mutual
def jg(σ:bK):aC->aC
 | .aq id=>match aF σ id with
  |some (.row true _ n es)=>.ad (.aq n es)|_=>.aq id
 | .agg cs=>.agg (mh σ cs)| .tuple cs=>.tuple (mh σ cs)| .fn f p q=>.fn f (mh σ p) (mh σ q)| .ad x=>.ad x| .ptr id off=>.ptr id off| .eb id off=>.eb id off| .du id i off=>.du id i off| .ref id=>.ref id| .top=>.top
def mh(σ:bK):List aC->List aC
 |[]=>[]|x::r=>jg σ x::mh σ r
end
theorem q8(σ:bK): ∀(l:List aC),(mh σ l).length=l.length
 |[]=>rfl|x::r=>by simp[mh,q8 σ r]
theorem si(σ:bK): ∀{l:List aC} {j:Nat} {x:aC},(mh σ l)[j]? =some x->∃y,l[j]? =some y/\x=jg σ y
 |[],j,x,h=>by simp[mh]at h|y::r,j,x,h=>by
  cases j with
  |zero=>simp[mh]at h;exact⟨y,by simp,h.symm⟩|succ j=>simp[mh]at h;simpa using si σ h
theorem TH{w:World}{ro:Nat->Prop}{σ:bK}{β:Nat->Value}{N:Nat}(a8:hA w ro σ β N){x:aC}{c:Value}(h:bN w ro σ β N x c):bN w ro σ β N (jg σ x) c:=by
 induction h with
 |aq id c au ar=>
  simp only[jg]
  split
  ·rename_i t n es ai
   rw[ar true t n es ai];have:=a8.dB id _ ai
   cases this with
   |gH _ _ _ aa=>exact .ad _ _ aa
  ·exact .aq id c au ar
 |ad x c h=>exact .ad x c h|agg cs c aa _ bb=>
  refine .agg _ c (by rw[q8];exact aa) λj x aj=>?_
  obtain⟨y,aA,rfl⟩:=si σ aj;exact bb j y aA
 |tuple cs c aa _ bb=>
  refine .tuple _ c (by rw[q8];exact aa) λj x aj=>?_
  obtain⟨y,aA,rfl⟩:=si σ aj;exact bb j y aA
 |ptr id off c aa ae=>exact .ptr id off c aa ae|eb id off c aa ae=>exact .eb id off c aa ae|du id i off c aa ae=>exact .du id i off c aa ae|fn f p q c d aa ae _ _ h7 h8=>
  refine .fn f _ _ c d (by rw[q8];exact aa) (by rw[q8];exact ae) (λj x aj=>?_) (λj x aj=>?_)
  ·obtain⟨y,aA,rfl⟩:=si σ aj
   exact h7 j y aA
  ·obtain⟨y,aA,rfl⟩:=si σ aj
   exact h8 j y aA
 |ref id c aa ae=>exact .ref id c aa ae|top c=>exact .top c
mutual
def jF:aC->Bool
 | .ad _=>true| .agg cs=>gI cs| .tuple cs=>gI cs| .fn _ p q=>gI p&&gI q| .top=>true| .ptr _ _=>false| .eb _ _=>false| .du _ _ _=>false| .aq _=>false| .ref _=>false
def gI:List aC->Bool
 |[]=>true|x::r=>jF x&&gI r
end
theorem q9: ∀{cs:List aC},gI cs=true->∀{j:Nat} {x:aC},cs[j]? =some x->jF x=true
 |[],_,j,x,h=>by simp at h|y::r,af,j,x,h=>by
  simp only[gI,zZr]at af
  cases j with
  |zero=>simp at h;subst h;exact af.1|succ j=>simp at h;exact q9 af.2 h
theorem EO(l:List a7):gI (l.map .ad)=true:=by
 induction l with
 |nil=>rfl|cons x r bb=>simp[gI,jF,bb]
theorem ra{w:World}{ro:Nat->Prop}{σ cu:bK}{β xb:Nat->Value}{N M:Nat}{x:aC}{c:Value}(h:bN w ro σ β N x c)(ar:jF x=true):bN w ro cu xb M x c:=by
 induction h with
 |ad x c h=>exact .ad x c h|agg cs c aa _ bb=>
  simp only[jF]at ar;exact .agg cs c aa λj x aj=>bb j x aj (q9 ar aj)
 |tuple cs c aa _ bb=>
  simp only[jF]at ar;exact .tuple cs c aa λj x aj=>bb j x aj (q9 ar aj)
 |fn f p q c d aa ae _ _ h7 h8=>
  simp only[jF,zZr]at ar;exact .fn f p q c d aa ae (λj x aj=>h7 j x aj (q9 ar.1 aj)) (λj x aj=>h8 j x aj (q9 ar.2 aj))
 |top c=>exact .top c|ptr=>simp[jF]at ar|eb=>simp[jF]at ar|du=>simp[jF]at ar|aq=>simp[jF]at ar|ref=>simp[jF]at ar
mutual
def Dw(d:Nat):aC->aC
 | .ad x=>.ad x| .agg cs=>.agg (pa d cs)| .tuple cs=>.tuple (pa d cs)| .ptr id off=>.ptr (d+id) off| .eb id off=>.eb (d+id) off| .du id i off=>.du (d+id) i off| .aq id=>.aq (d+id)| .fn f p q=>.fn f (pa d p) (pa d q)| .ref id=>.ref (d+id)| .top=>.top
def pa(d:Nat):List aC->List aC
 |[]=>[]|x::r=>Dw d x::pa d r
end
def nI(d:Nat):bK->bK
 |[]=>[]|(id,.box t cs)::r=>(d+id,.box t (pa d cs))::nI d r|(id,.row z t n es)::r=>(d+id,.row z t n es)::nI d r|(id,.bW bU)::r=>(d+id,.bW bU)::nI d r
def ni(d:Nat):ey->ey
 | .box t cs=>.box t (pa d cs)| .row z t n es=>.row z t n es| .bW bU=>.bW bU
theorem Bv(d:Nat): ∀(l:List aC),(pa d l).length=l.length
 |[]=>rfl|x::r=>by simp[pa,Bv d r]
theorem Bw(d:Nat): ∀{l:List aC} {j:Nat} {x:aC},(pa d l)[j]? =some x->∃y,l[j]? =some y/\x=Dw d y
 |[],j,x,h=>by simp[pa]at h|y::r,j,x,h=>by
  cases j with
  |zero=>simp[pa]at h;exact⟨y,by simp,h.symm⟩|succ j=>simp[pa]at h;simpa using Bw d h
theorem WJ(σ cu:bK)(id:Nat):aF (σ++cu) id=(aF σ id).or (aF cu id):=by
 induction σ with
 |nil=>simp[aF]|cons p r bb=>
  obtain⟨k,o⟩:=p;simp only[List.cons_append,aF]
  split
  ·simp
  ·exact bb
theorem EP(d:Nat): ∀(σ:bK) (id:Nat),aF (nI d σ) id=if d<=id then(aF σ (id-d)).map (ni d)else none
 |[],id=>by simp[nI,aF]|(k,.box t cs)::r,id=>by
  simp only[nI,aF,EP d r]
  by_cases aa:d+k=id
  ·have ae:d<=id:=by omega
   have aw:k=id-d:=by omega
   simp[ae,aw,ni]
  ·by_cases ae:d<=id
   ·have aw: ¬k=id-d:=by omega
    simp[aa,ae,aw]
   ·simp[aa,ae]
 |(k,.row z t n es)::r,id=>by
  simp only[nI,aF,EP d r]
  by_cases aa:d+k=id
  ·have ae:d<=id:=by omega
   have aw:k=id-d:=by omega
   simp[ae,aw,ni]
  ·by_cases ae:d<=id
   ·have aw: ¬k=id-d:=by omega
    simp[aa,ae,aw]
   ·simp[aa,ae]
 |(k,.bW bU)::r,id=>by
  simp only[nI,aF,EP d r]
  by_cases aa:d+k=id
  ·have ae:d<=id:=by omega
   have aw:k=id-d:=by omega
   simp[ae,aw,ni]
  ·by_cases ae:d<=id
   ·have aw: ¬k=id-d:=by omega
    simp[aa,ae,aw]
   ·simp[aa,ae]
theorem bN.shift{w:World}{ro ro':Nat->Prop}{σ cu:bK}{β xb:Nat->Value}{N M:Nat}{x:aC}{c:Value}(h:bN w ro σ β N x c)(cA: ∀b,ro b->ro' b)
 (NS: ∀id o,aF cu id=some o->id<M):
 bN w ro' (nI M σ++cu) (λk=>if M<=k then β (k-M)else xb k) (M+N) (Dw M x) c:=by
 have key: ∀id,aF (nI M σ++cu) (M+id)=(aF σ id).map (ni M):=by
  intro id;rw[WJ,EP];have aa:M<=M+id:=by omega
  simp only[aa,if_true,zY7]
  cases ao:aF σ id with
  |some o=>simp|none=>
   simp
   cases aJ:aF cu (M+id)with
   |none=>rfl|some o=>have:=NS _ _ aJ;omega
 induction h with
 |ad x c hx=>exact .ad x c (hx.keep (λ_ _=>rfl) cA)
 |agg cs c ao _ bb=>
  refine .agg _ c (by rw[Bv];exact ao) λj x aj=>?_
  obtain⟨y,aA,rfl⟩:=Bw M aj;exact bb j y aA
 |tuple cs c ao _ bb=>
  refine .tuple _ c (by rw[Bv];exact ao) λj x aj=>?_
  obtain⟨y,aA,rfl⟩:=Bw M aj;exact bb j y aA
 |ptr id off c au ar=>
  refine .ptr _ off c (by omega) λt cs ai=>?_
  rw[key]at ai;simp only[zY8,if_true,zY7]
  cases ao:aF σ id with
  |none=>simp[ao]at ai|some o=>
   cases o with
   |box br cs'=>exact ar br cs' ao|row=>simp[ao,ni]at ai|bW=>simp[ao,ni]at ai
 |eb id off c au ar=>
  refine .eb _ off c (by omega) λt cs ai=>?_
  rw[key]at ai;simp only[zY8,if_true,zY7]
  cases ao:aF σ id with
  |none=>simp[ao]at ai|some o=>
   cases o with
   |box br cs'=>exact ar br cs' ao|row=>simp[ao,ni]at ai|bW=>simp[ao,ni]at ai
 |du id i off c au ar=>
  refine .du _ i off c (by omega) λz t n es ai=>?_
  rw[key]at ai;simp only[zY8,if_true,zY7]
  cases ao:aF σ id with
  |none=>simp[ao]at ai|some o=>
   cases o with
   |box br cs'=>simp[ao,ni]at ai|bW=>simp[ao,ni]at ai|row h5 br b0 e2=>
    simp only[ao,Option.map_some,ni,zYt,ey.row.injEq]at ai;obtain⟨rfl,rfl,rfl,rfl⟩:=ai;exact ar _ _ _ _ ao
 |aq id c au ar=>
  refine .aq _ c (by omega) λz t n es ai=>?_
  rw[key]at ai;simp only[zY8,if_true,zY7]
  cases ao:aF σ id with
  |none=>simp[ao]at ai|some o=>
   cases o with
   |box br cs'=>simp[ao,ni]at ai|bW=>simp[ao,ni]at ai|row h5 br b0 e2=>exact ar _ _ _ _ ao
 |fn f p q c d aa ae _ _ h7 h8=>
  refine .fn f _ _ c d (by rw[Bv];exact aa) (by rw[Bv];exact ae) (λj x aj=>?_) (λj x aj=>?_)
  ·obtain⟨y,aA,rfl⟩:=Bw M aj
   exact h7 j y aA
  ·obtain⟨y,aA,rfl⟩:=Bw M aj
   exact h8 j y aA
 |ref id c au ar=>
  refine .ref _ c (by omega) λbU ai=>?_
  rw[key]at ai;simp only[zY8,if_true,zY7]
  cases ao:aF σ id with
  |none=>simp[ao]at ai|some o=>
   cases o with
   |box=>simp[ao,ni]at ai|row=>simp[ao,ni]at ai|bW lv=>exact ar lv ao
 |top c=>exact .top c
def o6(P:Program)(f:FuncId):Bool:=
 match P.funcs[f]? with
 |some fn=>!(fn.name== "runtime.NumGoroutine")&&fn.body.isSome|none=>false
theorem Dg{P:Program}{f:FuncId}(h:o6 P f=true)(args:Array Value)(w:World):(callFunc f args).run P w= .ok (.enter f args) w:=by
 unfold o6 at h
 split at h
 ·rename_i fn hf
  simp only[zZr,Bool.not_eq_true']at h;have ae:fn.body≠none:=by intro e;simp[e]at h
  have aw:fn.name≠ "runtime.NumGoroutine" :=by simpa using h.1
  simp[callFunc,hf,ae,aw]
 ·cases h
section
variable {P:Program} {G:aV} {s:aS} {Q:Exit->aS->Prop}
theorem pb.call{o:Oper}{x:Operand}{xs:Array Operand}{ts:Array TypeId}(av:o.op= .call {callee:=.value x,args:=xs,argTypes:=ts}){f:FuncId}(hx:aR G s x= .fn (.func f) [] [])
 (iw:o6 P f=true){args:List aC}(jV:xs.toList.map (λy=>jg s.heap (aR G s y))=args)(NT:gI args=true){R:aC->bK->Prop}(hc:fa P G f args [] 0 R){K:Nat}{r:aC}{cu:bK}
 (iZ: ∀e5 gW,R e5 gW->e5=r/\gW=cu)(zhd:jh K r=true)(WK:l1 K cu=true)(af:s.base<=s.next):
 pb P G o s ({s with heap:=nI s.next cu++s.heap,next:=s.next+K}.put o.dst (Dw s.next r)):=by
 intro E a w ⟨β,ro,h⟩ zoN zoO zhe;have sj:=h.eval x;rw[hx]at sj;generalize he:a.eval x=Hc at sj
 cases sj with
 |fn _ _ _ c d aa ae _ _=>
  have iD:c= #[]:=by simpa using aa
  have rU:d= #[]:=by simpa using ae
  subst iD rU;unfold Oper.wp;simp only[execOp,av,resolve,he,Deferred.ofValue,Sem.run_bind,Sem.run_pure,Result.andThen_ok,invoke,Array.empty_append,Array.append_empty];rw[Dg iw];have hlen:xs.toList.length=args.length:=by have:=congrArg List.length jV;simpa using this
  have hP:=hc w β ro (xs.map a.eval) (by simpa using hlen) (λi y aA=>by
   have hi:(xs.toList.map (λy=>jg s.heap (aR G s y)))[i]? =some y:=by rw[jV];exact aA
   rw[zYo]at hi
   cases NU:xs.toList[i]? with
   |none=>simp[NU]at hi|some z=>
    simp[NU]at hi;have az:=TH h.heap (h.eval z);rw[hi]at az;have zhf:xs[i]? =some z:=by simpa using NU
    have dh:(xs.map a.eval).getD i undef=a.eval z:=by simp[zhf]
    rw[dh]
    exact ra az (q9 NT aA)) ⟨by simp[aF],by simp[aF],λb _ ⟨_,_,ai,_⟩=>by simp[aF]at ai,h.heap.lt⟩ h.ix (by simp[aF])
  refine Calls.mono hP λe w' aB=>?_;obtain⟨v,e5,gW,cS,ro',b0,rfl,zhg,dO,gk,cP⟩:=aB;obtain⟨rfl,rfl⟩:=iZ e5 gW zhg;have pw: ∀b,¬Own ([]:bK) β b:=λb ⟨_,_,ai,_⟩=>by simp[aF]at ai
  have qg: ∀b,b<w.heap.size->w'.heap[b]? =w.heap[b]? :=λb af=>cP.frame b af (pw b);have yu:=dO.lower zhd;have gS:=h.heap;have NV:=λid o ai=>h.trans.new id o ai;have cA: ∀b,ro b->w'.heap[b]? =w.heap[b]? :=λb af=>qg b (h.heap.lt b af);have tM: ∀k p b,aF s.heap k=some p->p.live=true->cF (β k)=some b->b<w.heap.size:=λk p b an ar bp=>(h.heap.dB k p an).jB ar bp
  have Jc: ∀k p b,aF gW k=some p->p.live=true->cF (cS k)=some b->w.heap.size<=b:=by
   intro k p b an ar bp
   rcases cP.gG b ⟨k,p,an,ar,bp⟩with hc|hc
   ·exact absurd hc (pw b)
   ·exact hc

  have look: ∀id,aF (nI s.next gW++s.heap) id=if s.next<=id then(aF gW (id-s.next)).map (ni s.next)else aF s.heap id:=by
   intro id;rw[WJ,EP]
   by_cases hi:s.next<=id
   ·simp only[hi,if_true]
    cases ao:aF gW (id-s.next)with
    |some p=>simp|none=>
     simp
     cases aJ:aF s.heap id with
     |none=>rfl|some p=>have:=NV _ _ aJ;omega
   ·simp[hi]
  have up: ∀x c,bN w ro s.heap β s.next x c->bN w' (λb=>ro b\/ro' b) (nI s.next gW++s.heap) (λk=>if s.next<=k then cS (k-s.next)else β k) (s.next+K) x c:=by
   intro x c hx
   induction hx with
   |ad x c hx=>exact .ad x c (hx.keep cA λ_ h=>.inl h)
   |agg cs c ao _ bb=>exact .agg cs c ao bb|tuple cs c ao _ bb=>exact .tuple cs c ao bb|ptr k off c au ar=>
    have an: ¬s.next<=k:=by omega
    exact .ptr k off c (by omega) λt cs bH=>by rw[look,if_neg an]at bH;simp only[an,if_false];exact ar t cs bH
   |eb k off c au ar=>
    have an: ¬s.next<=k:=by omega
    exact .eb k off c (by omega) λt cs bH=>by rw[look,if_neg an]at bH;simp only[an,if_false];exact ar t cs bH
   |du k i off c au ar=>
    have an: ¬s.next<=k:=by omega
    exact .du k i off c (by omega) λz t n es bH=>by rw[look,if_neg an]at bH;simp only[an,if_false];exact ar z t n es bH
   |aq k c au ar=>
    have an: ¬s.next<=k:=by omega
    exact .aq k c (by omega) λz t n es bH=>by rw[look,if_neg an]at bH;simp only[an,if_false];exact ar z t n es bH
   |fn f p q c d aa ae _ _ h7 h8=>exact .fn f p q c d aa ae h7 h8|ref k c au ar=>
    have an: ¬s.next<=k:=by omega
    exact .ref k c (by omega) λbU bH=>by rw[look,if_neg an]at bH;simp only[an,if_false];exact ar bU bH
   |top c=>exact .top c
  have WL: ∀b,ro' b->ro b\/w.heap.size<=b:=λb af=>by
   rcases cP.h9 b af with h|h|h
   ·exact .inl h
   ·exact absurd h (pw b)
   ·exact .inr h
  refine zhe _ _ ⟨λk=>if s.next<=k then cS (k-s.next)else β k,λb=>ro b\/ro' b,dy.put (s:={s with heap:=nI s.next gW++s.heap,next:=s.next+K}) ⟨h.defers,h.size,λi x hx=>up _ _ (h.slot i x hx),⟨λid p ai=>?_,?_,?_,?_⟩,?_,?_,h.base⟩ o.dst _ _ ?_⟩ qg
  ·simp only[look]at ai
   by_cases hi:s.next<=id
   ·simp only[hi,if_true]at ai
    cases ao:aF gW (id-s.next)with
    |none=>simp[ao]at ai|some q=>
     simp[ao]at ai;subst ai;obtain⟨_,yl⟩:=rY WK ao;have gw:=gk.dB _ q ao
     cases gw with
     |box t cs b arr aE bc cJ ek=>
      refine .box t _ b arr (by simp[hi,aE]) bc (by rw[Bv];exact cJ) λj x aj=>?_
      obtain⟨y,aA,rfl⟩:=Bw s.next aj;exact bN.shift ((ek j y aA).lower (tu (yl t cs rfl) aA)) (λ_ h=>.inr h) NV
     |row t n es xs aE bc cJ=>exact .row t n es xs (by simp only[hi,if_true];exact aE) bc λj x aj=>(cJ j x aj).keep (λ_ _=>rfl) λ_ h=>.inr h
     |gH t n es aE=>exact .gH t n es (by simp only[hi,if_true];exact aE.keep (λ_ _=>rfl) λ_ h=>.inr h)
     |bW bU b o aE bc cJ=>exact .bW bU b o (by simp only[hi,if_true];exact aE) bc (by simp only[hi,if_true];exact bU.mono _ _ _ _ (λx c h=>h.keep (λ_ _=>rfl) λ_ h=>.inr h) cJ)
   ·simp only[hi,if_false]at ai
    have gw:=h.heap.dB id p ai
    cases gw with
    |box t cs b arr aE bc cJ ek=>
     have k5:=tM id _ b ai rfl (by rw[aE];rfl)
     exact .box t cs b arr (by simp only[hi,if_false];exact aE) ((qg b k5).trans bc) cJ λj x aj=>up _ _ (ek j x aj)
    |row t n es xs aE bc cJ=>
     exact .row t n es xs (by simp only[hi,if_false];exact aE.keep (λb af=>qg b (aE.jB af).1) cP.size) bc λj x aj=>(cJ j x aj).keep cA λ_ h=>.inl h
    |gH t n es aE=>exact .gH t n es (by simp only[hi,if_false];exact aE.keep cA λ_ h=>.inl h)
    |bW bU b o aE bc cJ=>exact .bW bU b o (by simp only[hi,if_false];exact aE) ((qg b (zYu.1 bc).1).trans bc) (by simp only[hi,if_false];exact bU.mono _ _ _ _ (λx c h=>h.keep cA λ_ h=>.inl h) cJ)
  ·intro id jn p ha b ai ee ar iK bp e7
   rw[look]at ai ee
   by_cases hi:s.next<=id
   ·simp only[hi,if_true]at ai bp
    cases ao:aF gW (id-s.next)with
    |none=>simp[ao]at ai|some q=>
     have vh:q.live=true:=by simp[ao]at ai;subst ai;cases q<;>first|rfl|exact ar
     have kG:=Jc _ q b ao vh bp
     by_cases il:s.next<=jn
     ·simp only[il,if_true]at ee e7
      cases gr:aF gW (jn-s.next)with
      |none=>simp[gr]at ee|some jA=>
       have EH:jA.live=true:=by simp[gr]at ee;subst ee;cases jA<;>first|rfl|exact iK
       have:=gk.inj _ _ q jA b ao gr vh EH bp e7;omega
     ·simp only[il,if_false]at ee e7
      have:=tM jn ha b ee iK e7;omega
   ·simp only[hi,if_false]at ai bp
    have NW:=tM id p b ai ar bp
    by_cases il:s.next<=jn
    ·simp only[il,if_true]at ee e7
     cases gr:aF gW (jn-s.next)with
     |none=>simp[gr]at ee|some jA=>
      have EH:jA.live=true:=by simp[gr]at ee;subst ee;cases jA<;>first|rfl|exact iK
      have kG:=Jc _ jA b gr EH e7;omega
    ·simp only[il,if_false]at ee e7
     exact h.heap.inj id jn p ha b ai ee ar iK bp e7
  ·rintro b af ⟨id,p,ai,ar,bp⟩
   rw[look]at ai
   by_cases hi:s.next<=id
   ·simp only[hi,if_true]at ai bp
    cases ao:aF gW (id-s.next)with
    |none=>simp[ao]at ai|some q=>
     have vh:q.live=true:=by simp[ao]at ai;subst ai;cases q<;>first|rfl|exact ar
     have kG:=Jc _ q b ao vh bp
     rcases af with af|af
     ·have:=h.heap.lt b af;omega
     ·exact gk.fy b af ⟨_,q,ao,vh,bp⟩
   ·simp only[hi,if_false]at ai bp
    have NW:=tM id p b ai ar bp
    rcases af with af|af
    ·exact h.heap.fy b af ⟨id,p,ai,ar,bp⟩
    ·rcases WL b af with hc|hc
     ·exact h.heap.fy b hc ⟨id,p,ai,ar,bp⟩
     ·omega
  ·intro b af
   rcases af with af|af
   ·exact zZw (h.heap.lt b af) cP.size
   ·exact gk.lt b af
  ·exact h.ix.keep cA λ_ h=>.inl h
  ·have t:=h.trans
   refine⟨cP.os.trans t.os,cP.tape.trans t.tape,cP.output.trans t.output,zZx t.size cP.size,λb k5 hI=>(qg b (zZw k5 t.size)).trans (t.frame b k5 hI),?_,λb af=>.inl (t.hp b af),?_,?_,?_,?_⟩
   ·intro b af
    rcases af with af|af
    ·exact t.h9 b af
    ·rcases WL b af with hc|hc
     ·exact t.h9 b hc
     ·exact .inr (.inr (zZx t.size hc))
   ·rintro b ⟨id,p,ai,ar,bp⟩
    rw[look]at ai
    by_cases hi:s.next<=id
    ·simp only[hi,if_true]at ai bp
     cases ao:aF gW (id-s.next)with
     |none=>simp[ao]at ai|some q=>
      have vh:q.live=true:=by simp[ao]at ai;subst ai;cases q<;>first|rfl|exact ar
      exact .inr (zZx t.size (Jc _ q b ao vh bp))
    ·simp only[hi,if_false]at ai bp
     exact t.gG b ⟨id,p,ai,ar,bp⟩
   ·intro id bq p ai
    have aa:=h.base;have hi: ¬s.next<=id:=by omega
    rw[look,if_neg hi]at ai;simp only[hi,if_false];exact t.er id bq p ai
   ·intro id p ai
    simp only[look]at ai
    by_cases hi:s.next<=id
    ·simp only[hi,if_true]at ai
     cases ao:aF gW (id-s.next)with
     |none=>simp[ao]at ai|some q=>
      have:=(rY WK ao).1;show id<s.next+K;omega
    ·show id<s.next+K
     omega
   ·have:=h.base
    show E.n<=s.next+K;omega
  ·exact bN.shift yu (λ_ h=>.inr h) NV
end
end Go.aH
namespace Go.aH
open Go
section
variable {P:Program} {G:aV} {o:Oper} {s:aS}
theorem dq.WM{w:World}{ro:Nat->Prop}{n:Nat}{es:List (List a7)}{c:Value}(h:dq w ro (.aq n es) c): ∃b cap,c= .slice b es.length cap:=by
 cases h with
 |aq _ _ b cap=>exact⟨b,cap,rfl⟩
def m4(σ:bK):aC->Option Nat
 | .ad (.aq _ es)=>some es.length| .ad (.v (.slice none 0 0))=>some 0| .aq id=>match aF σ id with
  |some (.row _ _ _ es)=>some es.length|_=>none
 |_=>none
theorem zhh{w:World}{ro:Nat->Prop}{σ:bK}{β:Nat->Value}{N:Nat}(a8:hA w ro σ β N){x:aC}{c:Value}(h:bN w ro σ β N x c){m:Nat}(hm:m4 σ x=some m): ∃b cap,c= .slice b m cap:=by
 cases h with
 |ad x c hx=>
  cases hx with
  |v _ aa=>
   cases c with
   |slice a l h6=>
    cases a with
    |none=>
     cases l with
     |zero=>
      cases h6 with
      |zero=>simp[m4]at hm;subst hm;exact⟨_,_,rfl⟩|succ=>simp[m4]at hm
     |succ=>simp[m4]at hm
    |some=>simp[m4]at hm
   |_=>simp[m4]at hm
  |ptr=>simp[m4]at hm|mp=>simp[m4]at hm|eE=>simp[m4]at hm|li=>simp[m4]at hm|aq n es b cap c aa ae aw aN bx=>
   simp only[m4,zYt]at hm;subst hm;exact⟨b,cap,rfl⟩
 |aq id c au ar=>
  simp only[m4]at hm
  split at hm
  ·rename_i z t n es ai
   simp only[zYt]at hm;subst hm;rw[ar z t n es ai];have:=a8.dB id _ ai
   cases this with
   |row _ _ _ xs aa=>
    rcases aa.2 with⟨⟨_,az,_⟩,aW⟩|⟨g,cap,cur,az,_⟩
    ·rw[az,aW];exact⟨_,_,rfl⟩
    ·rw[az];exact⟨_,_,rfl⟩
   |gH _ _ _ aa=>exact aa.WM
  ·cases hm
 |_=>simp[m4]at hm
def isSlice(P:Program)(t:TypeId):Bool:=
 match P.underlying t with
 |some (.slice _)=>true|_=>false
theorem NY(x:Operand)(t:TypeId)(av:o.op= .call {callee:=.builtin .len,args:=#[x],argTypes:=#[t]})(aJ:isSlice P t=true){m:Nat}(hm:m4 s.heap (aR G s x)=some m):
 c8 P G o s (.ad (.v (.int .i64 (m:Int)))):=
 λ_ a w β ro ah=>by
  obtain⟨b,cap,hc⟩:=zhh ah.heap (ah.eval x) hm;unfold isSlice at aJ
  split at aJ
  ·rename_i e hu
   refine⟨.int .i64 m,?_,.fu rfl⟩;simp[execOp,av,resolve,invoke,builtin,hc,Builtin.len_,run_underlying hu,goInt]
  ·cases aJ
theorem NZ(x:Operand)(t:TypeId)(av:o.op= .call {callee:=.builtin .len,args:=#[x],argTypes:=#[t]})(aJ:P.underlying t=some .string){b:ByteArray}(hx:aR G s x= .ad (.v (.string b))):
 c8 P G o s (.ad (.v (.int .i64 (b.size:Int)))):=
 λ_ a w β ro ah=>by
  refine⟨.int .i64 b.size,?_,.fu rfl⟩;simp[execOp,av,resolve,invoke,builtin,ah.ef hx,Builtin.len_,run_underlying aJ,goInt]
def Dd(P:Program)(t:TypeId):Option Nat:=
 match P.underlying t with
 |some (.array n _)=>some n|some (.pointer a)=>match P.underlying a with
  |some (.array n _)=>some n|_=>none
 |_=>none
theorem WN(x:Operand)(t:TypeId)(av:o.op= .call {callee:=.builtin .len,args:=#[x],argTypes:=#[t]}){n:Nat}(aJ:Dd P t=some n):
 c8 P G o s (.ad (.v (.int .i64 (n:Int)))):=
 λ_ a w β ro ah=>by
  refine⟨.int .i64 n,?_,.fu rfl⟩;unfold Dd at aJ
  split at aJ
  ·rename_i m e hu
   simp only[zYt]at aJ;subst aJ;simp[execOp,av,resolve,invoke,builtin,Builtin.len_,run_underlying hu,goInt]
  ·rename_i p hu
   split at aJ
   ·rename_i m e zhi
    simp only[zYt]at aJ;subst aJ;simp[execOp,av,resolve,invoke,builtin,Builtin.len_,run_underlying hu,run_underlying zhi,goInt]
   ·cases aJ
  ·cases aJ
def lY(P:Program)(t:TypeId):Option Nat:=
 match P.underlying t with
 |some (.slice e)=>(P.info? e).map (·.size)|_=>none
theorem zg{t n:Nat}(h:lY P t=some n): ∃e,P.underlying t=some (.slice e)/\∀w,(sizeOf e).run P w= .ok n w:=by
 unfold lY at h
 split at h
 ·rename_i e hu
  cases hi:P.info? e with
  |none=>simp[hi]at h|some i=>
   simp[hi]at h;subst h;exact⟨e,hu,λw=>by simp[sizeOf,typeInfo,hi]⟩
 ·cases h
def oo(σ:bK)(n j:Nat):aC->Option aC
 | .ad (.aq m es)=>if m=n then match es[j]? with
  |some e=>some (.ad (.ptr e))|none=>none
  else none
 | .aq id=>match aF σ id with
  |some (.row false _ m es)=>if m=n/\j<es.length then some (.du id j 0)else none
  |some (.row true _ m es)=>if m=n then match es[j]? with
   |some e=>some (.ad (.ptr e))|none=>none
   else none
  |_=>none
 |_=>none
theorem dq.elem{w:World}{ro:Nat->Prop}{n:Nat}{es:List (List a7)}{c:Value}(h:dq w ro (.aq n es) c){j:Nat}{e:List a7}(aj:es[j]? =some e):
 ∃a cap,c= .slice (some a) es.length cap/\dq w ro (.ptr e) (.pointer (some (a.add (j*n)))):=by
 cases h with
 |aq _ _ b cap f aa ae aw aN bx=>
  have dv:j<es.length:=(zZ1.1 aj).1;obtain⟨a,rfl,hc⟩:=aN (by omega)
  have q3:e.length=n:=aw e (zZ4 aj);have I5:j*n+n<=es.length*n:=by rw[<-zYp];exact Nat.mul_le_mul_right n dv
  refine⟨a,cap,rfl,.ptr _ _ (λk=>f (j*n+k)) (λk x an=>?_) (λk x an=>?_)⟩
  ·have ph:k<n:=by have:=(zZ1.1 an).1;omega
   rw[w8,Bm];exact hc _ (by omega)
  ·have ph:k<n:=by have:=(zZ1.1 an).1;omega
   exact bx _ _ (by rw[q2 aw aj k ph];exact an)
theorem WO{w:World}{ro:Nat->Prop}{σ:bK}{β:Nat->Value}{N:Nat}(a8:hA w ro σ β N){x:aC}{c:Value}(h:bN w ro σ β N x c){n j:Nat}{p:aC}(ar:oo σ n j x=some p):
 ∃a len cap,c= .slice (some a) len cap/\j<len/\bN w ro σ β N p (.pointer (some (a.add (j*n)))):=by
 cases h with
 |ad x c hx=>
  cases x with
  |v=>simp[oo]at ar|ptr=>simp[oo]at ar|mp=>simp[oo]at ar|eE=>simp[oo]at ar|li=>simp[oo]at ar|aq m es=>
   simp only[oo]at ar
   split at ar
   ·rename_i hm
    subst hm
    split at ar
    ·rename_i e he
     simp only[zYt]at ar;subst ar;obtain⟨a,cap,hc,ah⟩:=hx.elem he;exact⟨a,es.length,cap,hc,(zZ1.1 he).1,.ad _ _ ah⟩
    ·cases ar
   ·cases ar
 |aq id c au aB=>
  simp only[oo]at ar
  split at ar
  ·rename_i t m es ai
   split at ar
   ·rename_i hm
    obtain⟨rfl,aj⟩:=hm;simp only[zYt]at ar;subst ar;have eg:=a8.dB id _ ai
    cases eg with
    |row _ _ _ xs aa=>
     rcases aa.2 with⟨_,aW⟩|⟨g,cap,cur,az,_⟩
     ·omega
     ·rw[aB _ _ _ _ ai,az]
      refine⟨_,_,_,rfl,aj,.du _ _ _ _ au λh5 br b0 e2 ee=>?_⟩;rw[ai]at ee;simp only[zYt,ey.row.injEq]at ee;obtain⟨_,_,rfl,_⟩:=ee;exact⟨g,_,_,az,by rw[addLit];simp⟩
   ·cases ar
  ·rename_i t m es ai
   split at ar
   ·rename_i hm
    subst hm
    split at ar
    ·rename_i e he
     simp only[zYt]at ar;subst ar;have eg:=a8.dB id _ ai
     cases eg with
     |gH _ _ _ aa=>
      obtain⟨a,cap,hc,ah⟩:=aa.elem he;exact⟨a,es.length,cap,by rw[aB _ _ _ _ ai,hc],(zZ1.1 he).1,.ad _ _ ah⟩
    ·cases ar
   ·cases ar
  ·cases ar
 |_=>simp[oo]at ar
theorem WQ(t:TypeId)(x i:Operand)(av:o.op= .indexAddr t x i){n:Nat}(aJ:lY P t=some n){k:IntKind}{j:Nat}(hi:aR G s i= .ad (.v (.int k (j:Int)))){p:aC}(ar:oo s.heap n j (aR G s x)=some p):
 c8 P G o s p:=
 λ_ a w β ro ah=>by
  obtain⟨dj,len,cap,hc,aj,dO⟩:=WO ah.heap (ah.eval x) ar;obtain⟨e,hu,b4⟩:=zg aJ;refine⟨_,?_,dO⟩;have o9:(0:Int)<=j/\(j:Int)<len:=⟨by omega,by omega⟩
  simp[execOp,av,hc,ah.ef hi,Instr.indexAt,asIntOf,run_underlying hu,aj,b4]
def wq(P:Program)(t:TypeId):Option (Nat × Nat):=
 match P.underlying t with
 |some (.array n e)=>(P.info? e).map λi=>(n,i.size)
 |_=>none
theorem N0(t:TypeId)(x i:Operand)(av:o.op= .indexAddr t x i){len n:Nat}(aJ:wq P t=some (len,n)){k:IntKind}{j:Nat}(hi:aR G s i= .ad (.v (.int k (j:Int))))(aj:j<len)
 {cs:List aC}(fH:gj s.heap (aR G s x)=some cs){p:aC}(ar:ku (j*n) (aR G s x)=some p):
 c8 P G o s p:=
 λ_ a w β ro ah=>by
  obtain⟨dj,hc,dO⟩:=Wf ar fH (ah.eval x);unfold wq at aJ
  split at aJ
  ·rename_i m e hu
   cases zh:P.info? e with
   |none=>simp[zh]at aJ|some dA=>
    simp[zh]at aJ;obtain⟨rfl,rfl⟩:=aJ;refine⟨_,?_,dO⟩;simp[execOp,av,hc,ah.ef hi,Instr.indexAt,asIntOf,run_underlying hu,Instr.sureAddr,aj,sizeOf,typeInfo,zh]
  ·cases aJ
theorem WR(t:TypeId)(x i:Operand)(av:o.op= .index t x i)(aJ:P.underlying t=some .string){k:IntKind}{j:Nat}(hi:aR G s i= .ad (.v (.int k (j:Int)))){b:ByteArray}(hx:aR G s x= .ad (.v (.string b)))
 {u:UInt8}(hu:b.data.toList[j]? =some u):c8 P G o s (.ad (.v (.int .u8 (u.toNat:Int)))):=
 λ_ a w β ro ah=>by
  have aj:b[j]? =some u:=by
   have aa:j<b.size:=by have:=(zZ1.1 hu).1;simpa using this
   rw[ByteArray.getElem?_lt' b j aa];rw[zZ1]at hu;obtain⟨_,ae⟩:=hu;simp only[zYt];rw[<-ae];rfl
  exact⟨_,by simp[execOp,av,ah.ef hx,ah.ef hi,Instr.index,asIntOf,run_underlying aJ,aj],.fu rfl⟩
def x9(P:Program)(t:TypeId)(f:Nat):Option (Nat × Option Nat):=
 match P.underlying t with
 |some (.struct fs)=>match fs[f]? with
  |some fd=>if scalar P fd.type then some (fd.offset,none)else match nF P fd.type with
   |some n=>some (fd.offset,some n)|none=>none
  |none=>none
 |_=>none
theorem WS(t:TypeId)(x:Operand)(f:Nat)(av:o.op= .field t x f){off:Nat}(aJ:x9 P t f=some (off,none)){cs:List aC}(hx:aR G s x= .agg cs){v:aC}(az:cs[off]? =some v):
 c8 P G o s v:=
 λ_ a w β ro ah=>by
  have h:=ah.eval x;rw[hx]at h;generalize he:a.eval x=c at h
  cases h with
  |agg _ c ao hc=>
   have bR:off<c.size:=by have:=(zZ1.1 az).1;omega
   unfold x9 at aJ
   split at aJ
   ·rename_i fs hu
    split at aJ
    ·rename_i fd hf
     split at aJ
     ·rename_i hsc
      simp only[zYt,Prod.mk.injEq,and_true]at aJ;subst aJ;refine⟨c[fd.offset],?_,by simpa[bR]using hc _ v az⟩
      simp[execOp,av,he,Instr.field,run_underlying hu,hf,asAgg,part,AB hsc,bR]
     ·split at aJ
      ·simp at aJ
      ·cases aJ
    ·cases aJ
   ·cases aJ
theorem WT(t:TypeId)(x:Operand)(f:Nat)(av:o.op= .field t x f){off n:Nat}(aJ:x9 P t f=some (off,some n)){cs:List aC}(hx:aR G s x= .agg cs)(hn:off+n<=cs.length):
 c8 P G o s (.agg ((cs.drop off).take n)):=
 λ_ a w β ro ah=>by
  have h:=ah.eval x;rw[hx]at h;generalize he:a.eval x=c at h
  cases h with
  |agg _ c ao hc=>
   unfold x9 at aJ
   split at aJ
   ·rename_i fs hu
    split at aJ
    ·rename_i fd hf
     split at aJ
     ·simp at aJ
     ·split at aJ
      ·rename_i m ck
       simp only[zYt,Prod.mk.injEq]at aJ;obtain⟨rfl,rfl⟩:=aJ;obtain⟨g1,g2⟩:=I2 ck w;refine⟨.agg (c.extract fd.offset (fd.offset+m)),?_,.agg _ _ (by simp;omega) λj y aj=>?_⟩
       ·simp[execOp,av,he,Instr.field,run_underlying hu,hf,asAgg,part,g1,g2]
       ·rw[zYk]at aj
        split at aj
        ·rename_i WU
         rw[List.getElem?_drop]at aj;have:=hc _ y aj;have aa:fd.offset+j<c.size:=by omega
         have ae:j<(c.extract fd.offset (fd.offset+m)).size:=by simp;omega
         simp only[Array.getD,ae,dif_pos];simpa[aa]using this
        ·cases aj
      ·cases aJ
    ·cases aJ
   ·cases aJ
def places(P:Program)(t:TypeId):Option (Nat->Option (Nat × Nat)):=
 match P.underlying t with
 |some (.struct fs)=>if fs.toList.all λf=>(P.info? f.type).isSome then some λi=>(fs.toList.map λf=>(f.offset,((P.info? f.type).map (·.size)).getD 0))[i]? else none
 |some (.array _ e)=>match P.info? e with
  |some inf=>some λi=>some (i*inf.size,inf.size)
  |none=>none
 |_=>none
def lr(place:Nat->Option (Nat × Nat)):List aC->List (Nat × aC)->Option (List aC)
 |cs,[]=>some cs|cs,(i,v)::rest=>match place i with
  |some (off,size)=>if(dc v).length=size/\off+size<=cs.length then lr place (eJ cs off (dc v)) rest else none
  |none=>none
theorem WV(off:Nat): ∀(vs:List Value) (k:Nat) (cs:Array Value),off+k+vs.length<=cs.size->
 ((vs.zipIdx k).foldl (λ(cs:Array Value) (x:Value × Nat)=>cs.setIfInBounds (off+x.2) x.1) cs).toList=eJ cs.toList (off+k) vs
 |[],k,cs,h=>by simp[eJ]|v::vs,k,cs,h=>by
  simp only[List.zipIdx_cons,List.foldl_cons];rw[WV off vs (k+1) (cs.setIfInBounds (off+k) v) (by simp at h⊢;omega)]
  have e:=list_seg_step cs.toList (off+k) v vs (by simp at h⊢;omega)
  simp only[eJ,Array.toList_setIfInBounds,<-zYw]at*;simp only[List.append_assoc]at e;rw[e];simp[zYw]
theorem Jd{place place':Nat->Option (Nat × Nat)}(vo: ∀i p,place i=some p->place' i=some p){w:World}{ro:Nat->Prop}{σ:bK}{β:Nat->Value}{N:Nat}(a8:hA w ro σ β N):
    ∀{ps:List (Nat × aC)} {qs:List (Nat × Value)} {cs ds:List aC} {xs:Array Value},lr place cs ps=some ds->ps.map (·.1)=qs.map (·.1)->(∀(j:Nat) (p:Nat × aC) (q:Nat × Value),ps[j]? =some p->qs[j]? =some q->bN w ro σ β N p.2 q.2/\(dc p.2).all (fp σ)=true)->
    xs.size=cs.length->(∀j x,cs[j]? =some x->bN w ro σ β N x (xs.getD j undef))->
    ∃ys,Instr.fill place' xs qs=some ys/\ys.size=ds.length/\∀j x,ds[j]? =some x->bN w ro σ β N x (ys.getD j undef)
  |[],qs,cs,ds,xs,hf,an,_,ao,hx=>by
    simp[lr]at hf;subst hf
    have:qs=[]:=by cases qs with
      |nil=>rfl|cons=>simp at an
    subst this;exact⟨xs,by simp[Instr.fill],ao,hx⟩
  |(i,v)::ps,[],cs,ds,xs,hf,an,_,ao,hx=>by simp at an|(i,v)::ps,(Bx,u)::qs,cs,ds,xs,hf,an,ah,ao,hx=>by
    simp only[List.map_cons,List.cons.injEq]at an;obtain⟨rfl,an⟩:=an;simp only[lr]at hf
    split at hf
    · rename_i off size ar
      split at hf
      · rename_i hc
        obtain⟨By,N1⟩:=hc;have dO:bN w ro σ β N v u:=(ah 0 (i,v) (i,u) rfl rfl).1;have fE:(dc v).all (fp σ)=true:=(ah 0 (i,v) (i,u) rfl rfl).2;obtain⟨g1,g2,_⟩:=dO.dc fE a8;have WW:=WV off u.cells.toList 0 xs (by simp;omega)
        simp only[Nat.add_zero]at WW
        have bb:=Jd vo a8 (ps:=ps) (qs:=qs) (cs:=eJ cs off (dc v)) (ds:=ds) (xs:=(eJ xs.toList off u.cells.toList).toArray) hf an (λj p q aa ae=>ah (j+1) p q aa ae)
          (by rw[List.size_toArray,q4 _ _ _ (by simp;omega),q4 _ _ _ (by omega)];simpa using ao) (λj x aj=>by
            have:=I4 (bN w ro σ β N) undef (cs:=cs) (vs:=dc v) (xs:=xs.toList) (ys:=u.cells.toList) (off:=off) (by simp;omega) (by simp;omega) (by omega)
              (λj x aj=>by have:=hx j x aj;simpa[zYf,zZ8]using this) (λj x aj=>by have:=g2 j x aj;simpa[zYf,zZ8]using this) j x aj
            simpa[zYf,zZ8]using this)
        obtain⟨ys,aa,ae,aw⟩:=bb;refine⟨ys,?_,ae,aw⟩;rw[Instr.fill.eq_2,vo _ _ ar];simp only;rw[if_neg (by simp;omega)]
        have zhj:Array.foldl (λcs x=>match x with
            |(c,j)=>cs.setIfInBounds (off+j) c) xs u.cells.zipIdx=(eJ xs.toList off u.cells.toList).toArray:=by
          apply Array.ext';rw[<-WW,<-Array.foldl_toList];simp
        rw[zhj];exact aa
      · cases hf
    · cases hf
theorem run_places(w:World): ∀l:List Field,(l.all λf=>(P.info? f.type).isSome)=true->(l.mapM (λf=>do
    let n <-sizeOf f.type
    pure (f.offset,n):Field->Sem (Nat × Nat))).run P w= .ok (l.map λf=>(f.offset,((P.info? f.type).map (·.size)).getD 0)) w
  |[],_=>by simp|f::r,h=>by
    simp only[List.all_cons,zZr]at h;have bb:=run_places w r h.2
    cases hi:P.info? f.type with
    |none=>simp[hi]at h|some inf=>
      have aa:(sizeOf f.type).run P w= .ok inf.size w:=by simp[sizeOf,typeInfo,hi]
      simp only[zY4,Sem.run_bind,aa,Result.andThen_ok,Sem.run_pure,bb];simp[hi]
theorem run_build{t:TypeId}{pl:Nat->Option (Nat × Nat)}(ar:places P t=some pl){zs:List Value}(aW:zeroCells P t=some zs){parts:Array (Nat × Value)}{ys:Array Value}(hf:Instr.fill pl zs.toArray parts.toList=some ys)(w:World):
    (Instr.build t parts).run P w= .ok (.agg ys) w:=by
  obtain⟨z,pr,qd,_⟩:=Br aW w;unfold places at ar
  split at ar
  · rename_i fs hu
    split at ar
    · rename_i fE
      simp only[zYt]at ar;subst ar;have aa:=run_places w fs.toList fE
      have ae:(fs.mapM (λf=>do
          let n <-sizeOf f.type
          pure (f.offset,n):Field->Sem (Nat × Nat))).run P w= .ok (fs.toList.map λf=>(f.offset,((P.info? f.type).map (·.size)).getD 0)).toArray w:=by
        rw[zY5];simp only[Sem.run_map,aa];rfl
      simp only[Instr.build,Sem.run_bind,pr,Result.andThen_ok,run_underlying hu,ae,qd]
      have aw:(λ(x:Nat)=>(fs.toList.map λf=>(f.offset,((P.info? f.type).map (·.size)).getD 0)).toArray[x]?)=(λ(i:Nat)=>(fs.toList.map λf=>(f.offset,((P.info? f.type).map (·.size)).getD 0))[i]?):=by
        funext i;simp
      rw[aw,hf];rfl
    · cases ar
  · rename_i n e hu
    split at ar
    · rename_i inf hi
      simp only[zYt]at ar;subst ar;have aa:(sizeOf e).run P w= .ok inf.size w:=by simp[sizeOf,typeInfo,hi]
      simp only[Instr.build,Sem.run_bind,pr,Result.andThen_ok,run_underlying hu,aa,qd,hf];rfl
    · cases ar
  · cases ar
theorem N2{w:World}{ro:Nat->Prop}{σ:bK}{β:Nat->Value}{N:Nat}{zs:List Value}(fE:zs.all Value.oneCell'=true): ∀(j:Nat) (x:aC),(zs.map λz=>aC.ad (.v z))[j]? =some x->bN w ro σ β N x (zs.toArray.getD j undef):=by
 intro j x aj;rw[zYo]at aj
 cases vj:zs[j]? with
 |none=>simp[vj]at aj|some y=>
  simp[vj]at aj;subst aj
  have:y.oneCell'=true:=by
   rw[zZ2]at fE;exact fE y (zZ4 vj)
  simpa[vj]using bN.ad (w:=w) (ro:=ro) (σ:=σ) (β:=β) (N:=N) _ _ (.v y this)
theorem N3{E:Entry}{a:Act}{w:World}{β:Nat->Value}{ro:Nat->Prop}(ah:dy E G s a w β ro){parts:Array (Nat × Operand)}{ps:List (Nat × aC)}(vp:parts.toList.map (λp=>(p.1,aR G s p.2))=ps)
 (fE:ps.all (λp=>(dc p.2).all (fp s.heap))=true):
 ps.map (·.1)=(parts.map λp=>(p.1,a.eval p.2)).toList.map (·.1)/\
 ∀(j:Nat) (p:Nat × aC) (q:Nat × Value),ps[j]? =some p->(parts.map λp=>(p.1,a.eval p.2)).toList[j]? =some q->bN w ro s.heap β s.next p.2 q.2/\(dc p.2).all (fp s.heap)=true:=by
 subst vp;refine⟨by simp,λj p q aa ae=>?_⟩
 have ar:(dc p.2).all (fp s.heap)=true:=by
  rw[zZ2]at fE;exact fE p (zZ4 aa)
 rw[zYo]at aa;rw[Array.toList_map,zYo]at ae
 cases aj:parts.toList[j]? with
 |none=>simp[aj]at aa|some y=>
  simp[aj]at aa ae;subst aa ae;exact⟨ah.eval _,ar⟩
theorem WX(t:TypeId)(parts:Array (Nat × Operand))(av:o.op= .build t parts){pl:Nat->Option (Nat × Nat)}(ar:places P t=some pl){zs:List Value}(aW:zeroCells P t=some zs)(sk:zs.all Value.oneCell'=true)
 {ps:List (Nat × aC)}(vp:parts.toList.map (λp=>(p.1,aR G s p.2))=ps)(fE:ps.all (λp=>(dc p.2).all (fp s.heap))=true){ds:List aC}(hf:lr pl (zs.map λz=>.ad (.v z)) ps=some ds):
 c8 P G o s (.agg ds):=
 λ_ a w β ro ah=>by
  obtain⟨aa,ae⟩:=N3 ah vp fE;obtain⟨ys,g1,g2,g3⟩:=Jd (place':=pl) (λ_ _ h=>h) ah.heap hf aa ae (xs:=zs.toArray) (by simp) (N2 sk)
  refine⟨.agg ys,?_,.agg _ _ g2 g3⟩;have af:=run_build (P:=P) ar aW g1 w;simp only[execOp,av,Sem.run_bind]
  erw [af]
  rfl
end
end Go.aH
namespace Go.aH
open Go
mutual
def eV(id:Nat):aC->aC
 | .ad x=>.ad x| .agg cs=>.agg (ff id cs)| .tuple cs=>.tuple (ff id cs)| .ptr k off=>if k=id then .top else .ptr k off
 | .eb k off=>if k=id then .top else .eb k off
 | .du k i off=>if k=id then .top else .du k i off
 | .aq k=>if k=id then .top else .aq k
 | .fn f p q=>.fn f (ff id p) (ff id q)| .ref k=>if k=id then .top else .ref k
 | .top=>.top
def ff(id:Nat):List aC->List aC
 |[]=>[]|x::r=>eV id x::ff id r
end
def eD(id:Nat):bK->bK
 |[]=>[]|(k,.box t cs)::r=>if k=id then eD id r else(k,.box t (ff id cs))::eD id r
 |(k,.row z t n es)::r=>if k=id then eD id r else(k,.row z t n es)::eD id r
 |(k,.bW bU)::r=>if k=id then eD id r else(k,.bW bU)::eD id r
def fq(id:Nat):ey->ey
 | .box t cs=>.box t (ff id cs)| .row z t n es=>.row z t n es| .bW bU=>.bW bU
theorem j1(d:Nat): ∀(l:List aC),(ff d l).length=l.length
 |[]=>rfl|x::r=>by simp[ff,j1 d r]
theorem jN(d:Nat): ∀{l:List aC} {j:Nat} {x:aC},(ff d l)[j]? =some x->∃y,l[j]? =some y/\x=eV d y
 |[],j,x,h=>by simp[ff]at h|y::r,j,x,h=>by
  cases j with
  |zero=>simp[ff]at h;exact⟨y,by simp,h.symm⟩|succ j=>simp[ff]at h;simpa using jN d h
theorem tP(id:Nat): ∀(σ:bK) (k:Nat),aF (eD id σ) k=if k=id then none else(aF σ k).map (fq id)
 |[],k=>by simp[eD,aF]|(j,.box t cs)::r,k=>by
  have bb:=tP id r k
  by_cases aj:j=id
  ·subst aj
   by_cases an:k=j
   ·subst an;simpa[eD]using bb
   ·simp[eD,aF,bb,an,Ne.symm an]
  ·by_cases an:j=k
   ·subst an;simp[eD,aF,aj,fq]
   ·simp[eD,aF,aj,an,bb]
 |(j,.row z t n es)::r,k=>by
  have bb:=tP id r k
  by_cases aj:j=id
  ·subst aj
   by_cases an:k=j
   ·subst an;simpa[eD]using bb
   ·simp[eD,aF,bb,an,Ne.symm an]
  ·by_cases an:j=k
   ·subst an;simp[eD,aF,aj,fq]
   ·simp[eD,aF,aj,an,bb]
 |(j,.bW bU)::r,k=>by
  have bb:=tP id r k
  by_cases aj:j=id
  ·subst aj
   by_cases an:k=j
   ·subst an;simpa[eD]using bb
   ·simp[eD,aF,bb,an,Ne.symm an]
  ·by_cases an:j=k
   ·subst an;simp[eD,aF,aj,fq]
   ·simp[eD,aF,aj,an,bb]
theorem lH(id:Nat)(o:ey):(fq id o).live=o.live:=by cases o<;>rfl
section
variable {P:Program} {G:aV} {s:aS} {E:Entry} {a:Act} {w w':World} {β:Nat->Value} {ro:Nat->Prop}
theorem dy.renew(h:dy E G s a w β ro)(id:Nat)(af:s.base<=id)(bR:id<s.next){t0:TypeId}{n0:Nat}{ER:List (List a7)}(bq:aF s.heap id=some (.row false t0 n0 ER))(o:ey)(val:Value)
 (sf:w'.os=w.os)(sg:w'.tape=w.tape)(jD:w'.output=w.output)(b4:w.heap.size<=w'.heap.size)(hw: ∀b,b<w.heap.size->cF (β id)≠some b->w'.heap[b]? =w.heap[b]?)
 (jo: ∀b,cF val=some b->cF (β id)=some b\/w.heap.size<=b)(_hlive:o.live=true)
 (eg:oM w' ro ((id,o)::eD id s.heap) (jC β id val) s.next id o):
 dy E G ⟨ff id s.dn,(id,o)::eD id s.heap,s.next,s.base⟩ a w' (jC β id val) ro:=by
 have cA: ∀b,ro b->w'.heap[b]? =w.heap[b]? :=λb ah=>hw b (h.heap.lt b ah) λaf=>h.heap.fy b ah ⟨id,_,bq,rfl,af⟩;have ai: ∀k,k≠id->aF ((id,o)::eD id s.heap) k=(aF s.heap k).map (fq id):=λk an=>by simp[aF,Ne.symm an,tP,an]
 have zc:aF ((id,o)::eD id s.heap) id=some o:=by simp[aF]
 have key: ∀x c,bN w ro s.heap β s.next x c->bN w' ro ((id,o)::eD id s.heap) (jC β id val) s.next (eV id x) c:=by
  intro x c hx
  induction hx with
  |ad x c hx=>exact .ad x c (hx.keep cA λ_ h=>h)
  |agg cs c ao _ bb=>
   refine .agg _ c (by rw[j1];exact ao) λj x aj=>?_
   obtain⟨y,aA,rfl⟩:=jN id aj;exact bb j y aA
  |tuple cs c ao _ bb=>
   refine .tuple _ c (by rw[j1];exact ao) λj x aj=>?_
   obtain⟨y,aA,rfl⟩:=jN id aj;exact bb j y aA
  |ptr k off c au ar=>
   simp only[eV]
   split
   ·exact .top _
   ·rename_i an
    refine .ptr k off c au λt cs bH=>?_;rw[dK _ _ an];rw[ai k an]at bH
    cases ao:aF s.heap k with
    |none=>simp[ao]at bH|some p=>
     cases p with
     |box br cs'=>exact ar br cs' ao|row=>simp[ao,fq]at bH|bW=>simp[ao,fq]at bH
  |eb k off c au ar=>
   simp only[eV]
   split
   ·exact .top _
   ·rename_i an
    refine .eb k off c au λt cs bH=>?_;rw[dK _ _ an];rw[ai k an]at bH
    cases ao:aF s.heap k with
    |none=>simp[ao]at bH|some p=>
     cases p with
     |box br cs'=>exact ar br cs' ao|row=>simp[ao,fq]at bH|bW=>simp[ao,fq]at bH
  |du k i off c au ar=>
   simp only[eV]
   split
   ·exact .top _
   ·rename_i an
    refine .du k i off c au λz t n es bH=>?_;rw[dK _ _ an];rw[ai k an]at bH
    cases ao:aF s.heap k with
    |none=>simp[ao]at bH|some p=>
     cases p with
     |box br cs'=>simp[ao,fq]at bH|bW=>simp[ao,fq]at bH|row h5 br b0 e2=>
      simp only[ao,Option.map_some,fq,zYt,ey.row.injEq]at bH;obtain⟨rfl,rfl,rfl,rfl⟩:=bH;exact ar _ _ _ _ ao
  |aq k c au ar=>
   simp only[eV]
   split
   ·exact .top _
   ·rename_i an
    refine .aq k c au λz t n es bH=>?_;rw[dK _ _ an];rw[ai k an]at bH
    cases ao:aF s.heap k with
    |none=>simp[ao]at bH|some p=>
     cases p with
     |box br cs'=>simp[ao,fq]at bH|bW=>simp[ao,fq]at bH|row h5 br b0 e2=>exact ar _ _ _ _ ao
  |fn f p q c d aa ae _ _ h7 h8=>
   refine .fn f _ _ c d (by rw[j1];exact aa) (by rw[j1];exact ae) (λj x aj=>?_) (λj x aj=>?_)
   ·obtain⟨y,aA,rfl⟩:=jN id aj
    exact h7 j y aA
   ·obtain⟨y,aA,rfl⟩:=jN id aj
    exact h8 j y aA
  |ref k c au ar=>
   simp only[eV]
   split
   ·exact .top _
   ·rename_i an
    refine .ref k c au λbU bH=>?_;rw[dK _ _ an];rw[ai k an]at bH
    cases ao:aF s.heap k with
    |none=>simp[ao]at bH|some p=>
     cases p with
     |box=>simp[ao,fq]at bH|row=>simp[ao,fq]at bH|bW lv=>exact ar lv ao
  |top c=>exact .top c
 have er: ∀k p,k≠id->aF ((id,o)::eD id s.heap) k=some p->∃q,aF s.heap k=some q/\p=fq id q:=by
  intro k p an bH;rw[ai k an]at bH
  cases ao:aF s.heap k with
  |none=>simp[ao]at bH|some q=>simp[ao]at bH;exact⟨q,rfl,bH.symm⟩
 refine⟨h.defers,by simpa[j1]using h.size,λi x hx=>?_,⟨λk p an=>?_,λk bl p ha b an fI ar iK bp e7=>?_,λb ah=>?_,λb ah=>zZw (h.heap.lt b ah) b4⟩,
  h.ix.keep cA λ_ h=>h,?_,h.base⟩
 ·obtain⟨y,aA,rfl⟩:=jN id hx
  exact key _ _ (h.slot i y aA)
 ·by_cases bT:k=id
  ·subst bT
   rw[zc]at an;simp only[zYt]at an;subst an;exact eg
  ·obtain⟨q,aB,rfl⟩:=er k p bT an
   have gw:=h.heap.dB k q aB
   have b6:q.live=true->∀b,cF (β k)=some b->w'.heap[b]? =w.heap[b]? :=λau b bp=>
    hw b (gw.jB au bp) λmf=>bT (h.heap.inj k id q _ b aB bq au rfl bp mf)
   cases gw with
   |box t cs b arr aa ae aw aN=>
    refine .box t _ b arr (by rw[dK _ _ bT];exact aa) ((b6 rfl b (by rw[aa];rfl)).trans ae) (by rw[j1];exact aw) λj x aj=>?_
    obtain⟨y,aA,rfl⟩:=jN id aj;exact key _ _ (aN j y aA)
   |row t n es xs aa ae aw=>exact .row t n es xs (by rw[dK _ _ bT];exact aa.keep (λb af=>b6 rfl b af) b4) ae λj x aj=>(aw j x aj).keep cA λ_ h=>h
   |gH t n es aa=>exact .gH t n es (by rw[dK _ _ bT];exact aa.keep cA λ_ h=>h)
   |bW bU b o aa ae aw=>exact .bW bU b o (by rw[dK _ _ bT];exact aa) ((b6 rfl b aa).trans ae) (by rw[dK _ _ bT];exact bU.mono _ _ _ _ (λx c h=>h.keep cA λ_ h=>h) aw)
 ·by_cases bT:k=id
  ·by_cases iL:bl=id
   ·rw[bT,iL]
   ·subst bT
    rw[fl]at bp;rw[dK _ _ iL]at e7;obtain⟨q,aB,rfl⟩:=er bl ha iL fI;rw[lH]at iK;have ae:=(h.heap.dB bl q aB).jB iK e7
    rcases jo b bp with aa|aa
    ·exact(h.heap.inj bl k q _ b aB bq iK rfl e7 aa).symm
    ·omega
  ·obtain⟨q,aB,rfl⟩:=er k p bT an
   rw[lH]at ar;rw[dK _ _ bT]at bp
   by_cases iL:bl=id
   ·subst iL
    rw[fl]at e7;have ae:=(h.heap.dB k q aB).jB ar bp
    rcases jo b e7 with aa|aa
    ·exact h.heap.inj k bl q _ b aB bq ar rfl bp aa
    ·omega
   ·obtain⟨jA,zd,rfl⟩:=er bl ha iL fI
    rw[lH]at iK;rw[dK _ _ iL]at e7;exact h.heap.inj k bl q jA b aB zd ar iK bp e7
 ·rintro⟨k,p,an,ar,bp⟩
  by_cases bT:k=id
  ·subst bT
   rw[fl]at bp
   rcases jo b bp with aa|aa
   ·exact h.heap.fy b ah ⟨k,_,bq,rfl,aa⟩
   ·have:=h.heap.lt b ah;omega
  ·obtain⟨q,aB,rfl⟩:=er k p bT an
   rw[lH]at ar;rw[dK _ _ bT]at bp;exact h.heap.fy b ah ⟨k,q,aB,ar,bp⟩
 ·have t:=h.trans
  refine⟨sf.trans t.os,sg.trans t.tape,jD.trans t.output,zZx t.size b4,λb k5 hI=>?_,t.h9,t.hp,?_,λk an p bH=>?_,λk p bH=>?_,t.le⟩
  ·by_cases mf:cF (β id)=some b
   ·rcases t.gG b ⟨id,_,bq,rfl,mf⟩with hc|hc
    ·exact absurd hc hI
    ·omega
   ·rw[hw b (zZw k5 t.size) mf]
    exact t.frame b k5 hI
  ·rintro b ⟨k,p,an,ar,bp⟩
   by_cases bT:k=id
   ·subst bT
    rw[fl]at bp
    rcases jo b bp with aa|aa
    ·exact t.gG b ⟨k,_,bq,rfl,aa⟩
    ·exact .inr (zZx t.size aa)
   ·obtain⟨q,aB,rfl⟩:=er k p bT an
    rw[lH]at ar;rw[dK _ _ bT]at bp;exact t.gG b ⟨k,q,aB,ar,bp⟩
  ·have bT:k≠id:=by have:=h.base;omega
   obtain⟨q,aB,rfl⟩:=er k p bT bH;rw[dK _ _ bT];exact t.er k an q aB
  ·by_cases bT:k=id
   ·subst bT;exact bR
   ·obtain⟨q,aB,rfl⟩:=er k p bT bH
    exact t.new k q aB
def chunk{α:Type}(n:Nat):Nat->List α->List (List α)
 |0,_=>[]|k+1,l=>l.take n::chunk n k (l.drop n)
theorem ES{α:Type}(n:Nat): ∀(k:Nat) (l:List α),(chunk n k l).length=k
 |0,_=>rfl|k+1,l=>by simp[chunk,ES n k]
theorem WY{α:Type}(n:Nat): ∀(k:Nat) (l:List α),l.length=k*n->∀e∈chunk n k l,e.length=n
 |0,_,_,e,he=>by simp[chunk]at he|k+1,l,h,e,he=>by
  rw[zYp]at h;simp only[chunk,List.mem_cons]at he
  rcases he with rfl|he
  ·simp;omega
  ·exact WY n k (l.drop n) (by simp;omega) e he
theorem WZ{α:Type}(n:Nat): ∀(k:Nat) (l:List α),l.length=k*n->(chunk n k l).flatten=l
 |0,l,h=>by
  have:l=[]:=zY6 (by simpa using h)
  simp[chunk,this]
 |k+1,l,h=>by
  rw[zYp]at h;simp only[chunk,List.flatten_cons];rw[WZ n k (l.drop n) (by simp;omega),List.take_append_drop]
theorem l2.HE{w:World}{t:TypeId}{n:Nat}{v:Value}{len:Nat}{xs:List Value}(h:w.ownsRow 0 t n v len xs):l2 w t n v len xs:=by
 obtain⟨au,ah⟩:=h;refine⟨au,?_⟩
 rcases ah with⟨aa,ae⟩|⟨g,cap,cur,az,_,ai,hle,kE,fH,aJ⟩
 ·exact .inl ⟨⟨none,aa,λ_ h=>(by cases h)⟩,ae⟩
 ·by_cases hc:cap=0
  ·subst hc
   have:len=0:=by omega
   subst this;exact .inl ⟨⟨_,az,λa ba=>(by cases ba;exact(zYu.1 ai).1)⟩,rfl⟩
  ·exact .inr ⟨g,cap,cur,az,by omega,ai,hle,kE,fH,aJ⟩
def wH(P:Program)(G:aV)(o:Oper)(s:aS)(t:TypeId)(n:Nat)(es:List (List a7)):Prop:=
 (∀e∈es,e.length=n)/\∀E a w β ro,dy E G s a w β ro->∃v xs w',(execOp a.eval o).run P w= .ok (.value v) w'/\w'.ownsRow 0 t n v es.length xs/\w.grownBy w' none/\(∀b,cF v=some b->w.heap.size<=b)/\
  ∀j x,es.flatten[j]? =some x->dq w ro x (xs.getD j undef)
theorem eL.newRow{o:Oper}{t:TypeId}{n:Nat}{es:List (List a7)}(af:s.base<=s.next)(a8:wH P G o s t n es):
 eL P G o s ({s with heap:=(s.next,.row false t n es)::s.heap,next:=s.next+1}.put o.dst (.aq s.next)):=by
 obtain⟨hn,h⟩:=a8;intro E a w ⟨β,ro,ah⟩ K Q hK;obtain⟨v,xs,w',cE,iS,dX,jo,fW⟩:=h E a w β ro ah;unfold Oper.wp;rw[cE]
 have lB:aF s.heap s.next=none:=by
  cases ai:aF s.heap s.next with
  |none=>rfl|some p=>have:=ah.trans.new _ _ ai;omega
 have hw: ∀b,b<w.heap.size->w'.heap[b]? =w.heap[b]? :=λb af=>dX.block b af (by simp)
 have cA: ∀b,ro b->w'.heap[b]? =w.heap[b]? :=λb af=>hw b (ah.heap.lt b af)
 have gS:dy E G {s with heap:=(s.next,.row false t n es)::s.heap,next:=s.next+1} a w' (jC β s.next v) ro:=by
  refine ah.new s.next lB af (zZv _) _ v dX.os dX.tape dX.output dX.size hw jo rfl ?_;exact .row t n es xs (by rw[fl];exact .HE iS) hn λj x aj=>(fW j x aj).keep cA λ_ h=>h
 refine hK _ _ ⟨_,ro,gS.put o.dst _ _ ?_⟩;exact .aq _ _ (Nat.lt_succ_self _) λz br b0 e2 _=>(fl _ _ _).symm
theorem zhk{o:Oper}(t:TypeId)(len:Nat)(parts:Array (Nat × Operand))(av:o.op= .buildSlice t len parts){e n:Nat}(hu:P.underlying t=some (.slice e))(b4:(P.info? e).map (·.size)=some n)
 {zs:List Value}(aW:zeroCells P e=some zs)(sk:zs.all Value.oneCell'=true)(mi:zs.length=n)(hlen:0<len*n/\len*n<=16777216)
 {ps:List (Nat × aC)}(vp:parts.toList.map (λp=>(p.1,aR G s p.2))=ps)(fE:ps.all (λp=>(dc p.2).all (fp s.heap))=true)
 {ds:List aC}(hf:lr (λi=>some (i*n,n)) ((zZz len (zs.map λz=>aC.ad (.v z))).flatten) ps=some ds){rs:List a7}(hZ:jU ds=some rs):
 wH P G o s e n (chunk n len rs):=by
 have qh:ds.length=len*n:=by
  have: ∀(ps:List (Nat × aC)) (cs ds:List aC),lr (λi=>some (i*n,n)) cs ps=some ds->ds.length=cs.length:=by
   intro ps
   induction ps with
   |nil=>intro cs ds h;simp[lr]at h;rw[h]|cons p r bb=>
    intro cs ds h;obtain⟨i,v⟩:=p;simp only[lr]at h
    split at h
    ·rename_i hc
     rw[bb _ _ h,q4 _ _ _ (by omega)]
    ·cases h
  rw[this ps _ _ hf,jZ (n:=n) (λe he=>by rw[zY9]at he;rw[he.2];simpa using mi)]
  simp
 have W0:rs.length=len*n:=by rw[<-qh,AA hZ];simp
 refine⟨WY n len rs W0,λE a w β ro ah=>?_⟩;obtain⟨aa,ae⟩:=N3 ah vp fE;obtain⟨z,pr,qd,_⟩:=Br aW w
 have fW:(zZz len (zs.map λz=>aC.ad (.v z))).flatten.length=len*n:=by
  rw[jZ (n:=n) (λe he=>by rw[zY9]at he;rw[he.2];simpa using mi)];simp
 have zhl:zs.toArray.size=n:=by simpa using mi
 have rb:0<n:=by
  rcases Nat.eq_zero_or_pos n with h|h
  ·rw[h]at hlen;simp at hlen
  ·exact h
 obtain⟨ys,g1,g2,g3⟩:=Jd (place':=λi=>some (i*n,n)) (λ_ _ h=>h) ah.heap hf aa ae (xs:=(zXz (len*n)).map λx=>zs.toArray[x%zs.toArray.size]!) (by rw[fW];simp) (λj x aj=>by
  have dv:j<len*n:=by rw[<-fW];exact(zZ1.1 aj).1
  have hm:j=(j/ n)*n+j%n:=by rw[Nat.mul_comm];exact(Nat.div_add_mod j n).symm
  have nj:j%n<n:=Nat.mod_lt _ rb;have nk:j/ n<len:=by rw[Nat.div_lt_iff_lt_mul rb];exact dv
  rw[hm,q2 (n:=n) (λe he=>by rw[zY9]at he;rw[he.2];simpa using mi) (i:=j/ n) (e:=zs.map λz=>aC.ad (.v z)) (by simp[nk]) (j%n) nj]at aj
  have:=N2 (w:=w) (ro:=ro) (σ:=s.heap) (β:=β) (N:=s.next) sk (j%n) x aj
  have aE:(Array.map (λx=>zs.toArray[x%zs.toArray.size]!) (zXz (len*n))).getD j undef=zs.toArray.getD (j%n) undef:=by
   have aw:j%n<zs.length:=by omega
   simp[dv,mi,List.getElem?_eq_getElem aw]
  rw[aE]
  exact this)
 have pq:ys.toList.length=(chunk n len rs).length*n:=by rw[ES];simpa[qh]using g2
 refine⟨.slice (some ⟨w.heap.size,0,none⟩) len len,ys.toList,w.alloc (.cells ys e),?_,?_,World.grownBy_alloc w _ none,λb bp=>?_,λj x aj=>?_⟩
 ·have yh:(sizeOf e).run P w= .ok n w:=by
   cases hi:P.info? e with
   |none=>simp[hi]at b4|some i=>simp[hi]at b4;simp[sizeOf,typeInfo,hi,b4]
  have b6: ¬len*n>2^24:=by omega
  have lI: ¬len*n=0:=by omega
  simp only[execOp,av,Sem.run_bind,Instr.buildSlice,run_underlying hu,Result.andThen_ok,yh,if_neg b6,if_neg lI,pr,Sem.run_pure,qd]
  erw [g1]
  simp[newRow]
 ·rw[ES]
  exact World.ownsRow_lit w ys len (Nat.zero_le _) (by simp only[maxLen];have:=Nat.le_mul_of_pos_right len rb;omega) (by simpa[qh]using g2)
 ·simp only[cF]at bp
  split at bp
  ·cases bp
  ·simp at bp;omega
 ·rw[WZ n len rs W0]at aj
  have aw:=g3 j (.ad x) (by rw[AA hZ];simp[aj])
  cases aw with
  |ad _ _ aw=>
   have:ys.toList.getD j undef=ys.getD j undef:=by simp[zZ8,zYf]
   rw[this];exact aw
end
end Go.aH
