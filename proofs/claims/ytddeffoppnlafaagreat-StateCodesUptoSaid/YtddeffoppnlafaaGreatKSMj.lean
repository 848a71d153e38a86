/- The AV calculus, part G: code, loops, the beginning and the end of a call. Conditions: none. -/
import Derived.Test.YtddeffoppnlafaaGreatKSMf
namespace Go.aK
open Go
def lift(E:Entry)(G:aR)(Q:Exit→aQ→Prop):Exit→Act→World→Prop:=fun e a w=>∃s,Q e s∧Rel E G s a w
def b2(P:Program)(G:aR)(c:Code)(Q:Exit→aQ→Prop)(s:aQ):Prop:=∀E a w,Rel E G s a w→c.wp P (lift E G Q) a w
def c8(P:Program)(G:aR)(ops:Array Oper)(Q:Exit→aQ→Prop)(l:List Oper)(s:aQ):Prop:=∀E a w,Rel E G s a w→wpList P ops (lift E G Q) l a w
section
variable {P:Program} {G:aR} {Q:Exit→aQ→Prop} {s:aQ}
theorem b2.region{id:Nat}{l:List Oper}(h:c8 P G l.toArray Q l s):b2 P G (.region id l.toArray false) Q s:=fun E a w ah=>wp_region_lit (h E a w ah)
theorem c8.nil{ops:Array Oper}(h:Q .normal s):c8 P G ops Q [] s:=fun _ _ _ ah=>wpList_nil ⟨s,h,ah⟩
theorem c8.cons{ops:Array Oper}{o:Oper}{rest:List Oper}{s':aQ}(ai:o.guard=none)(h:ep P G o s s')(k:c8 P G ops Q rest s'):c8 P G ops Q (o::rest) s:=
 fun E a w ah=>wpList_plain ai fun _ hK=>h E a w ah _ _ fun bb w' dF=>hK bb w' (k E bb w' dF)
def mQ(ops:Array Oper)(j:Nat):Option Nat:=(ops[j]?).bind (·.dst)
theorem LA{ops:Array Oper}{E:Entry}{a:Act}{w:World}(ah:Rel E G s a w){j d:Nat}(aj:mQ ops j=some d){b:Bool}(hd:s.db[d]? =some (.ad (.v (.bool b)))):yielded ops a.tmps j=some b:=by
 obtain⟨β,ro,h⟩:=ah
 have ao:=bA.val (h.slot d _ hd)
 have bE:d<a.tmps.size:=by rw[h.size];exact(List.getElem?_eq_some_iff.1 hd).1
 unfold mQ at aj
 unfold yielded
 rw[aj]
 simp only[Option.bind_some]
 simp[bE]at ao
 simp[bE,ao]
theorem SS{ops:Array Oper}{E:Entry}{a:Act}{w:World}(ah:Rel E G s a w){j d:Nat}(aj:mQ ops j=some d){cs:List aC}(hd:s.db[d]? =some (.tuple cs)):yielded ops a.tmps j=none:=by
 obtain⟨β,ro,h⟩:=ah
 have ao:=h.slot d _ hd
 have bE:d<a.tmps.size:=by rw[h.size];exact(List.getElem?_eq_some_iff.1 hd).1
 unfold mQ at aj
 unfold yielded
 rw[aj]
 simp only[Option.bind_some]
 simp[bE]at ao
 generalize a.tmps[d]=c at ao
 have aG:a.tmps[d]? =some a.tmps[d]:=by simp[bE]
 have ao:=h.slot d _ hd
 simp[bE]at ao
 cases fK:a.tmps[d]with
 |tuple x=>simp[aG,fK]
 |_=>rw[fK]at ao;cases ao
theorem c8.guarded{ops:Array Oper}{o:Oper}{rest:List Oper}{s':aQ}{j d:Nat}{b:Bool}(ai:o.guard=some (j,b))(aj:mQ ops j=some d)(hd:s.db[d]? =some (.ad (.v (.bool b))))
 (h:ep P G o s s')(k:c8 P G ops Q rest s'):c8 P G ops Q (o::rest) s:=
 fun E a w ah=>wpList_step fun _ hK=>by
  have aA:=LA ah aj hd
  simp only[Region.wanted,ai,aA,beq_self_eq_true,if_true];exact h E a w ah _ _ fun bb w' dF=>hK bb w' (k E bb w' dF)
theorem Rel.x1{E:Entry}{a:Act}{w:World}(ah:Rel E G s a w)(dst:Option Nat):Rel E G (s.put dst (.tuple [])) (a.put dst undef) w:=by
 obtain⟨β,ro,h⟩:=ah
 exact⟨β,ro,h.put dst _ _ (.tuple _ _ rfl (by simp))⟩
theorem c8.zcN{ops:Array Oper}{o:Oper}{rest:List Oper}{j d:Nat}{b:Bool}(ai:o.guard=some (j,b))(aj:mQ ops j=some d)(hd:s.db[d]? =some (.ad (.v (.bool (!b)))))
 (k:c8 P G ops Q rest (s.put o.dst (.tuple []))):c8 P G ops Q (o::rest) s:=
 fun E a w ah=>by
  have aA:=LA ah aj hd
  refine wpList_skip ?_ (k E _ w (ah.x1 o.dst))
  simp only[Region.wanted,ai,aA]
  cases b<;>rfl
theorem c8.zcO{ops:Array Oper}{o:Oper}{rest:List Oper}{j d:Nat}{b:Bool}(ai:o.guard=some (j,b))(aj:mQ ops j=some d){cs:List aC}(hd:s.db[d]? =some (.tuple cs))
 (k:c8 P G ops Q rest (s.put o.dst (.tuple []))):c8 P G ops Q (o::rest) s:=
 fun E a w ah=>by
  have aA:=SS ah aj hd
  refine wpList_skip ?_ (k E _ w (ah.x1 o.dst))
  simp only[Region.wanted,ai,aA]
  cases b<;>rfl
def zcP(P:Program)(G:aR)(c:Code)(Q:Exit→aQ→Prop):Exit→aQ→Prop
 | .normal,s=>b2 P G c Q s
 |e,s=>Q e s
theorem b2.seq{x y:Code}(h:b2 P G x (zcP P G y Q) s):b2 P G (.seq x y) Q s:=fun E a w ah=>by
 refine wp_seq (wp_mono (h E a w ah) fun e bb w' aG=>?_)
 obtain⟨s',ab,ae⟩:=aG
 cases e with
 |normal=>exact ab E bb w' ae
 |_=>exact⟨s',ab,ae⟩
theorem b2.cond{x:Operand}{c d:Code}{b:Bool}(hx:aP G s x= .ad (.v (.bool b)))(aJ:b=true→b2 P G c Q s)(hf:b=false→b2 P G d Q s):b2 P G (.cond x c d) Q s:=fun E a w ah=>by
 obtain⟨β,ro,h⟩:=ah
 exact wp_cond_split (h.dR hx) (fun e=>aJ e E a w ⟨β,ro,h⟩) (fun e=>hf e E a w ⟨β,ro,h⟩)
theorem b2.Jt{x:Operand}{c d:Code}(hx:aP G s x= .ad (.v (.bool true)))(aJ:b2 P G c Q s):b2 P G (.cond x c d) Q s:=b2.cond hx (fun _=>aJ) (fun h=>by cases h)
theorem b2.Ju{x:Operand}{c d:Code}(hx:aP G s x= .ad (.v (.bool false)))(hf:b2 P G d Q s):b2 P G (.cond x c d) Q s:=b2.cond hx (fun h=>by cases h) (fun _=>hf)
theorem b2.skip(h:Q .normal s):b2 P G .skip Q s:=fun _ _ _ ah=>wp_skip ⟨s,h,ah⟩
theorem b2.ret(h:Q .ret s):b2 P G .ret Q s:=fun _ _ _ ah=>wp_ret ⟨s,h,ah⟩
theorem b2.exit{id:Nat}(h:Q (.exit id) s):b2 P G (.exit id) Q s:=fun _ _ _ ah=>wp_exit ⟨s,h,ah⟩
theorem b2.mono{c:Code}{Q':Exit→aQ→Prop}(h:b2 P G c Q s)(aG: ∀e s,Q e s→Q' e s):b2 P G c Q' s:=fun E a w ah=>
 wp_mono (h E a w ah) fun e _ _ ⟨s',ab,ae⟩=>⟨s',aG e s' ab,ae⟩
def EG(id:Nat)(Q:Exit→aQ→Prop):Exit→aQ→Prop
 | .exit iw,s=>bif Nat.beq iw id then Q .normal s else Q (.exit iw) s
 |e,s=>Q e s
theorem b2.block{id:Nat}{c:Code}(h:b2 P G c (EG id Q) s):b2 P G (.block id c) Q s:=fun E a w ah=>by
 refine wp_block (wp_mono (h E a w ah) fun e bb w' aG=>?_)
 obtain⟨s',ab,ae⟩:=aG
 cases e with
 |exit iw=>
  simp only[EG,Exit.inBlock]at*
  split
  ·rename_i he
   have ag:Nat.beq iw id=true:=by simpa using he
   rw[ag]at ab;exact⟨s',ab,ae⟩
  ·rename_i he
   have ag:Nat.beq iw id=false:=by
    cases aG:Nat.beq iw id with
    |false=>rfl
    |true=>exact absurd (Nat.eq_of_beq_eq_true aG) he
   rw[ag]at ab;exact⟨s',ab,ae⟩
 |_=>exact⟨s',ab,ae⟩
def bV(s s':aQ):Prop:=∀E (G:aR) a w,Rel E G s a w→Rel E G s' a w
theorem bV.refl(s:aQ):bV s s:=fun _ _ _ _ h=>h
theorem bV.trans{s s' SU:aQ}(h:bV s s')(k:bV s' SU):bV s SU:=fun E G a w ah=>k E G a w (h E G a w ah)
theorem b2.le{c:Code}{s':aQ}(h:bV s s')(k:b2 P G c Q s'):b2 P G c Q s:=fun E a w ah=>k E a w (h E G a w ah)
theorem c8.le{ops:Array Oper}{l:List Oper}{s':aQ}(h:bV s s')(k:c8 P G ops Q l s'):c8 P G ops Q l s:=fun E a w ah=>k E a w (h E G a w ah)
theorem b2.loop{ι:Type}(st:ι→aQ)(inv:ι→Prop)(mu:ι→Nat){c:Code}(x:ι)(aS:bV s (st x))(hi:inv x)
    (round: ∀x,inv x→b2 P G c (fun e s'=>match e with
      | .normal=>∃y,inv y∧mu y<mu x∧bV s' (st y)
      |e=>Q e s') (st x)):b2 P G (.loop c) Q s:=fun E a w ah=>by
  have key: ∀n x,mu x=n→inv x→∀a w,Rel E G (st x) a w→(Code.loop c).wp P (lift E G Q) a w:=by
    intro n x hn hx a w ah;refine wp_loop (fun a w=>∃y,inv y∧Rel E G (st y) a w) (fun a w=>Classical.epsilon fun m=>∃y,inv y∧Rel E G (st y) a w∧mu y=m∧∀z,inv z→Rel E G (st z) a w→m≤mu z) ⟨x,hx,ah⟩ ?_
    intro a w ⟨e5,F0,zcQ⟩
    have hex: ∃m,∃y,inv y∧Rel E G (st y) a w∧mu y=m∧∀z,inv z→Rel E G (st z) a w→m≤mu z:=by
      have: ∀k y,mu y=k→inv y→Rel E G (st y) a w→∃m,∃y,inv y∧Rel E G (st y) a w∧mu y=m∧∀z,inv z→Rel E G (st z) a w→m≤mu z:=by
        intro k
        induction k using Nat.strongRecOn with
        |_ k aY=>
          intro y an aA B6
          by_cases s6: ∀z,inv z→Rel E G (st z) a w→mu y≤mu z
          · exact⟨mu y,y,aA,B6,rfl,s6⟩
          · simp only[Classical.not_forall]at s6
            obtain⟨z,aT,nJ,bE⟩:=s6;exact aY (mu z) (by omega) z rfl aT nJ
      exact this _ e5 rfl F0 zcQ
    obtain⟨y,aA,B6,zcR,_⟩:=Classical.epsilon_spec hex;refine wp_mono (round y aA E a w B6) fun e bb w' aG=>?_
    obtain⟨s',ab,ae⟩:=aG
    cases e with
    |normal=>
      obtain⟨z,aT,bE,hle⟩:=ab
      have nJ:=hle E G bb w' ae
      refine⟨⟨z,aT,nJ⟩,?_⟩
      have zcS: ∃m,∃y,inv y∧Rel E G (st y) bb w'∧mu y=m∧∀z,inv z→Rel E G (st z) bb w'→m≤mu z:=by
        have: ∀k y,mu y=k→inv y→Rel E G (st y) bb w'→∃m,∃y,inv y∧Rel E G (st y) bb w'∧mu y=m∧∀z,inv z→Rel E G (st z) bb w'→m≤mu z:=by
          intro k
          induction k using Nat.strongRecOn with
          |_ k aY=>
            intro y an aA B6
            by_cases s6: ∀z,inv z→Rel E G (st z) bb w'→mu y≤mu z
            · exact⟨mu y,y,aA,B6,rfl,s6⟩
            · simp only[Classical.not_forall]at s6
              obtain⟨z,aT,nJ,bE⟩:=s6;exact aY (mu z) (by omega) z rfl aT nJ
        exact this _ z rfl aT nJ
      obtain⟨_,_,_,_,s6⟩:=Classical.epsilon_spec zcS
      have aw:=s6 z aT nJ
      rw[←zcR];exact Nat.lt_of_le_of_lt aw bE
    |_=>exact⟨s',ab,ae⟩
  exact key _ x rfl hi a w (aS E G a w ah)
end
def eJ(P:Program)(G:aR)(f:FuncId)(args:List aC)(σ:Heap)(n:Nat)(Q:aC→Heap→Prop):Prop:=
 ∀w β ro (dJ:Array Value),dJ.size=args.length→(∀i x,args[i]? =some x→bA w ro σ β n x (dJ.getD i undef))→gI w ro σ β n→o4 w ro G→(∀id o,aE σ id=some o→id<n)→
  Calls P f dJ w fun e w'=>∃v r cU cK ro' bL,e= .returned v∧Q r cU∧bA w' ro' cU cK bL r v∧gI w' ro' cU cK bL∧Trans ⟨w,ro,σ,β,n,[]⟩ w' ro' cU cK bL
def oE(P:Program)(s:aQ):List ResultVar→Option (List aC)
 |[]=>some []
 | .tmp t::r=>match oE P s r with
  |some l=>some (s.db.getD t .top::l)
  |none=>none
 | .cell p t::r=>match oE P s r,fG s.heap (s.db.getD p .top)with
  |some l,some cs=>match mb P t with
   |some n=>if n≤cs.length∧0<n then some (.agg (cs.take n)::l)else none
   |none=>if scalar P t then match cs with
    |y::_=>some (y::l)
    |[]=>none
    else none
  |_,_=>none
def rk(P:Program)(fn:Func)(s:aQ):Option aC:=
 match oE P s fn.results.toList with
 |some [x]=>some x
 |some l=>some (.tuple l)
 |none=>none
def zcT(P:Program)(fn:Func)(Q:aC→Heap→Prop):Exit→aQ→Prop:=fun e s=>
 (e= .normal∨e= .ret)∧∃r cU,rk P fn s=some r∧(∀id o,aE cU id=some o→aE s.heap id=some o)∧Q r cU
theorem gI.sub{w:World}{ro:Nat→Prop}{σ cU:Heap}{β:Nat→Value}{N:Nat}(h:gI w ro σ β N)(ao: ∀id o,aE cU id=some o→aE σ id=some o):gI w ro cU β N:=by
 refine⟨fun id o ai=>(h.dq id o (ao id o ai)).keep (fun _ _=>rfl) (fun _ h=>h) (Nat.le_refl _) (Nat.le_refl _) rfl (fun _ _ _=>rfl) (fun id t cs ai=>⟨rfl,t,cs,ao id _ ai⟩) (fun id z t n es ai=>⟨rfl,z,t,es,ao id _ ai⟩) (fun id bH ai=>⟨rfl,bH,ao id _ ai⟩),
  fun id iw o cb b ab ae=>h.inj id iw o cb b (ao id o ab) (ao iw cb ae),fun b ag ⟨id,o,ai,av,bc⟩=>h.e8 b ag ⟨id,o,ao id o ai,av,bc⟩,h.lt⟩
theorem bA.sub{w:World}{ro:Nat→Prop}{σ cU:Heap}{β:Nat→Value}{N:Nat}{x:aC}{c:Value}(h:bA w ro σ β N x c)(ao: ∀id o,aE cU id=some o→aE σ id=some o):bA w ro cU β N x c:=
 h.keep (fun _ _=>rfl) (fun _ h=>h) (Nat.le_refl _) (fun id t cs ai=>⟨rfl,t,cs,ao id _ ai⟩) (fun id z t _ es ai=>⟨rfl,z,t,es,ao id _ ai⟩) (fun id bH ai=>⟨rfl,bH,ao id _ ai⟩)
theorem Trans.sub{E:Entry}{w:World}{ro:Nat→Prop}{σ cU:Heap}{β:Nat→Value}{n:Nat}(h:Trans E w ro σ β n)(ao: ∀id o,aE cU id=some o→aE σ id=some o):Trans E w ro cU β n:=
 ⟨h.os,h.tape,h.output,h.size,h.frame,h.hz,h.gA,fun b ⟨id,o,ai,av,bc⟩=>h.fU b ⟨id,o,ao id o ai,av,bc⟩,fun id hi o ai=>h.ea id hi o (ao id o ai),fun id o ai=>h.new id o (ao id o ai),h.le⟩
section
variable {P:Program} {G:aR}
def wL(tmps:Array Value):ResultVar→Sem Value
 | .tmp t=>pure (tmps.getD t undef)
 | .cell p t=>do
  let b ←asAddr (tmps.getD p undef)
  loadVar t b
theorem zcU(fn:Func)(tmps:Array Value):results fn tmps=(do
    let vs ←fn.results.mapM (wL tmps)
    pure (if h:vs.size=1 then vs[0]else .tuple vs)):=by
  unfold results
  have:(fun x=>match x with
      |ResultVar.tmp t=>(pure (tmps.getD t undef):Sem Value)
      |ResultVar.cell p t=>do
        let b ←asAddr (tmps.getD p undef)
        loadVar t b)=wL tmps:=by
    funext x
    cases x<;>rfl
  rw[←this];rfl
theorem LB{E:Entry}{s:aQ}{a:Act}{w:World}{β:Nat→Value}{ro:Nat→Prop}(h:dn E G s a w β ro): ∀{rs:List ResultVar} {l:List aC},oE P s rs=some l→
 ∃vs:List Value,(rs.mapM (wL a.tmps)).run P w= .ok vs w∧vs.length=l.length∧∀j x,l[j]? =some x→bA w ro s.heap β s.next x (vs.getD j undef)
 |[],l,av=>by
  simp[oE]at av;subst av;exact⟨[],by simp,rfl,by simp⟩
 | .tmp t::r,l,av=>by
  simp only[oE]at av
  cases ah:oE P s r with
  |none=>simp[ah]at av
  |some er=>
   simp only[ah,Option.some.injEq]at av;subst av;obtain⟨vs,ab,ae,aw⟩:=LB h ah;refine⟨a.tmps.getD t undef::vs,by simp only[List.mapM_cons,Sem.run_bind,wL,Sem.run_pure,Result.andThen_ok,ab],by simp[ae],fun j x aj=>?_⟩
   cases j with
   |zero=>
    simp at aj;subst aj;exact h.eval (.tmp t)
   |succ j=>exact aw j x aj
 | .cell p t::r,l,av=>by
  simp only[oE]at av
  cases ah:oE P s r with
  |none=>simp[ah]at av
  |some er=>
   cases hc:fG s.heap (s.db.getD p .top)with
   |none=>rw[ah,hc]at av;cases av
   |some cs=>
    rw[ah,hc]at av;simp only at av;obtain⟨vs,ab,ae,aw⟩:=LB h ah
    have c5:=h.eval (.tmp p)
    simp only[aP,Act.eval]at c5
    cases b4:mb P t with
    |some n=>
     simp only[b4]at av
     split at av
     ·rename_i hn
      simp only[Option.some.injEq]at av;subst av;obtain⟨c7,wM,f,hf⟩:=yJ h.heap hc c5 (by intro e;subst e;simp at hn;omega)
      obtain⟨g1,g2⟩:=FR b4 w
      have nK:=run_loadCells (P:=P) w c7 n f (fun j aj=>(hf j (cs[j]'(by omega)) (by simp)).1)
      refine⟨.agg ((List.range n).map f).toArray::vs,?_,by simp[ae],fun j x aj=>?_⟩
      ·simp only[List.mapM_cons,Sem.run_bind,wL,wM,asAddr,Sem.run_pure,Result.andThen_ok,loadVar,g1,g2,if_true,nK,ab]
      ·cases j with
       |zero=>
        simp at aj;subst aj;refine .agg _ _ (by simp;omega) fun j y aj=>?_
        rw[List.getElem?_take]at aj
        split at aj
        ·have:=(hf j y aj).2
         rename_i qt;simpa[qt]using this
        ·cases aj
       |succ j=>exact aw j x aj
     ·cases av
    |none=>
     simp only[b4]at av
     split at av
     ·rename_i hsc
      cases cs with
      |nil=>simp at av
      |cons y cs'=>
       simp only[Option.some.injEq]at av;subst av;obtain⟨c7,wM,f,hf⟩:=yJ h.heap hc c5 (by simp)
       have g1:=xT hsc w
       obtain⟨jO,dE⟩:=hf 0 y rfl;rw[show c7.add 0=c7 from by simp[Addr.add]]at jO
       refine⟨f 0::vs,?_,by simp[ae],fun j x aj=>?_⟩
       ·simp only[List.mapM_cons,Sem.run_bind,wL,wM,asAddr,Sem.run_pure,Result.andThen_ok,loadVar,g1]
        simp[run_load,jO,ab]
       ·cases j with
        |zero=>simp at aj;subst aj;exact dE
        |succ j=>exact aw j x aj
     ·cases av
theorem D6{E:Entry}{s:aQ}{a:Act}{w:World}{β:Nat→Value}{ro:Nat→Prop}(h:dn E G s a w β ro){fn:Func}{r:aC}(ah:rk P fn s=some r):
 ∃v,(results fn a.tmps).run P w= .ok v w∧bA w ro s.heap β s.next r v:=by
 unfold rk at ah
 cases a6:oE P s fn.results.toList with
 |none=>simp[a6]at ah
 |some l=>
  rw[a6]at ah;obtain⟨vs,ab,ae,aw⟩:=LB h a6
  have hm:(fn.results.mapM (wL a.tmps)).run P w= .ok vs.toArray w:=by
   rw[Array.mapM_eq_mapM_toList];simp only[Sem.run_map,ab]
   first|rfl|simp
  have ko:(results fn a.tmps).run P w= .ok (if h:vs.toArray.size=1 then vs.toArray[0]else .tuple vs.toArray) w:=by
   rw[zcU,Sem.run_bind,hm];rfl
  refine⟨_,ko,?_⟩
  match l,a6,ah,ae,aw with
  |[x],_,ah,ae,aw=>
   injection ah with ah
   subst ah
   have pr:vs.toArray.size=1:=by simpa using ae
   rw[dif_pos pr]
   have:=aw 0 x rfl
   have SV:0<vs.length:=by simp at pr;omega
   simpa[List.getD,SV]using this
  |[],_,ah,ae,aw=>
   injection ah with ah
   subst ah
   have:vs=[]:=List.eq_nil_of_length_eq_zero (by simpa using ae)
   subst this;exact .tuple _ _ rfl (by simp)
  |x::y::er,_,ah,ae,aw=>
   injection ah with ah
   subst ah;rw[dif_neg (by simp at ae⊢;omega)]
   refine .tuple _ _ (by simpa using ae) fun j z aj=>?_
   have:=aw j z aj
   simpa[List.getD,Array.getD_eq_getD_getElem?]using this
theorem eJ.zcV{f:FuncId}{fn:Func}{c:Code}{args:List aC}{σ:Heap}{n k:Nat}{Q:aC→Heap→Prop}(hf:P.funcs[f]? =some fn)(ag:fn.body=some c)(an:fn.ntmps-args.length=k)
 (h:b2 P G c (zcT P fn Q) ⟨args++List.replicate k .top,σ,n,n⟩):eJ P G f args σ n Q:=by
 intro w β ro dJ bT jc aV ai bE
 refine calls_of_wp hf ag (wp_mono (h ⟨w,ro,σ,β,n,[]⟩ _ w ⟨β,ro,rfl,?_,?_,aV,ai,?_,Nat.le_refl _⟩) ?_)
 ·simp[bT,an]
 ·intro i x hi
  simp only at hi
  by_cases vQ:i<args.length
  ·rw[List.getElem?_append_left vQ]at hi
   have:=jc i x hi
   have ab:i<dJ.size:=by omega
   simpa[Array.getElem?_append_left ab,ab,Array.getElem_append_left ab]using this
  ·rw[List.getElem?_append_right (by omega)]at hi
   rw[List.getElem?_replicate]at hi
   split at hi
   ·simp only[Option.some.injEq]at hi;subst hi;exact .top _
   ·cases hi
 ·exact⟨rfl,rfl,rfl,Nat.le_refl _,fun _ _ _=>rfl,fun _ h=>.inl h,fun _ h=>h,fun _ h=>.inl h,fun id _ o au=>⟨by rw[au];simp,rfl⟩,bE,Nat.le_refl _⟩
 ·intro e bb w' ⟨s',aG,cK,ro',ah⟩
  obtain⟨he,r,cU,ko,fC,ed⟩:=aG;obtain⟨v,az,dE⟩:=D6 ah ko
  rcases he with rfl|rfl
  ·exact⟨ah.defers,v,az,v,r,cU,cK,ro',s'.next,rfl,ed,dE.sub fC,ah.heap.sub fC,ah.trans.sub fC⟩
  ·exact⟨ah.defers,v,az,v,r,cU,cK,ro',s'.next,rfl,ed,dE.sub fC,ah.heap.sub fC,ah.trans.sub fC⟩
end
end Go.aK
namespace Go.aK
open Go
mutual
def iq(n:Nat):aC→Bool
 | .ad _=>true
 | .agg cs=>nL n cs
 | .tuple cs=>nL n cs
 | .ptr id _=>decide (id<n)
 | .dN id _=>decide (id<n)
 | .dg id _ _=>decide (id<n)
 | .aq id=>decide (id<n)
 | .fn _ p q=>nL n p&&nL n q
 | .ref id=>decide (id<n)
 | .top=>true
def nL(n:Nat):List aC→Bool
 |[]=>true
 |x::r=>iq n x&&nL n r
end
theorem ru{n:Nat}: ∀{cs:List aC},nL n cs=true→∀{j:Nat} {x:aC},cs[j]? =some x→iq n x=true
 |[],_,j,x,h=>by simp at h
 |y::r,ag,j,x,h=>by
  simp only[nL,Bool.and_eq_true]at ag
  cases j with
  |zero=>simp at h;subst h;exact ag.1
  |succ j=>simp at h;exact ru ag.2 h
theorem bA.lower{w:World}{ro:Nat→Prop}{σ:Heap}{β:Nat→Value}{N mN:Nat}{x:aC}{c:Value}(h:bA w ro σ β N x c)(ag:iq mN x=true):bA w ro σ β mN x c:=by
 induction h with
 |ad x c hx=>exact .ad x c hx
 |agg cs c ao _ aY=>
  simp only[iq]at ag;exact .agg cs c ao fun j x aj=>aY j x aj (ru ag aj)
 |tuple cs c ao _ aY=>
  simp only[iq]at ag;exact .tuple cs c ao fun j x aj=>aY j x aj (ru ag aj)
 |ptr id off c av ar=>exact .ptr id off c (by simpa[iq]using ag) ar
 |dN id off c av ar=>exact .dN id off c (by simpa[iq]using ag) ar
 |dg id i off c av ar=>exact .dg id i off c (by simpa[iq]using ag) ar
 |aq id c av ar=>exact .aq id c (by simpa[iq]using ag) ar
 |fn f p q c d ab ae _ _ hv hy=>
  simp only[iq,Bool.and_eq_true]at ag;exact .fn f p q c d ab ae (fun j x aj=>hv j x aj (ru ag.1 aj)) (fun j x aj=>hy j x aj (ru ag.2 aj))
 |ref id c av ar=>exact .ref id c (by simpa[iq]using ag) ar
 |top c=>exact .top c
def yP(σ:Heap):List Nat→Heap
 |[]=>[]
 |id::r=>match aE σ id with
  |some o=>(id,o)::yP σ r
  |none=>yP σ r
theorem LC(σ:Heap): ∀(ids:List Nat) (id:Nat) (o:ec),aE (yP σ ids) id=some o→aE σ id=some o
 |[],id,o,h=>by simp[yP,aE]at h
 |k::r,id,o,h=>by
  simp only[yP]at h
  cases an:aE σ k with
  |none=>rw[an]at h;exact LC σ r id o h
  |some p=>
   rw[an]at h;simp only[aE]at h
   split at h
   ·rename_i he
    subst he;rw[an];exact h
   ·exact LC σ r id o h
def kU(n:Nat):Heap→Bool
 |[]=>true
 |(id,.box _ cs)::r=>decide (id<n)&&nL n cs&&kU n r
 |(id,.row _ _ _ _)::r=>decide (id<n)&&kU n r
 |(id,.bI _)::r=>decide (id<n)&&kU n r
theorem qc{n:Nat}: ∀{σ:Heap},kU n σ=true→∀{id:Nat} {o:ec},aE σ id=some o→id<n∧∀t cs,o= .box t cs→nL n cs=true
 |[],_,id,o,h=>by simp[aE]at h
 |(k,.box t cs)::r,ag,id,o,h=>by
  simp only[kU,Bool.and_eq_true,decide_eq_true_eq]at ag;simp only[aE]at h
  split at h
  ·rename_i he
   subst he;simp only[Option.some.injEq]at h;subst h;exact⟨ag.1.1,fun bh cs' he=>by cases he;exact ag.1.2⟩
  ·exact qc ag.2 h
 |(k,.row z t m es)::r,ag,id,o,h=>by
  simp only[kU,Bool.and_eq_true,decide_eq_true_eq]at ag;simp only[aE]at h
  split at h
  ·rename_i he
   subst he;simp only[Option.some.injEq]at h;subst h;exact⟨ag.1,fun bh cs' he=>by cases he⟩
  ·exact qc ag.2 h
 |(k,.bI bH)::r,ag,id,o,h=>by
  simp only[kU,Bool.and_eq_true,decide_eq_true_eq]at ag;simp only[aE]at h
  split at h
  ·rename_i he
   subst he;simp only[Option.some.injEq]at h;subst h;exact⟨ag.1,fun bh cs' he=>by cases he⟩
  ·exact qc ag.2 h
mutual
def im(σ:Heap):aC→aC
 | .aq id=>match aE σ id with
  |some (.row true _ n es)=>.ad (.aq n es)
  |_=>.aq id
 | .agg cs=>.agg (k3 σ cs)
 | .tuple cs=>.tuple (k3 σ cs)
 | .fn f p q=>.fn f (k3 σ p) (k3 σ q)
 | .ad x=>.ad x
 | .ptr id off=>.ptr id off
 | .dN id off=>.dN id off
 | .dg id i off=>.dg id i off
 | .ref id=>.ref id
 | .top=>.top
def k3(σ:Heap):List aC→List aC
 |[]=>[]
 |x::r=>im σ x::k3 σ r
end
theorem pt(σ:Heap): ∀(l:List aC),(k3 σ l).length=l.length
 |[]=>rfl
 |x::r=>by simp[k3,pt σ r]
theorem qA(σ:Heap): ∀{l:List aC} {j:Nat} {x:aC},(k3 σ l)[j]? =some x→∃y,l[j]? =some y∧x=im σ y
 |[],j,x,h=>by simp[k3]at h
 |y::r,j,x,h=>by
  cases j with
  |zero=>simp[k3]at h;exact⟨y,by simp,h.symm⟩
  |succ j=>simp[k3]at h;simpa using qA σ h
theorem Q1{w:World}{ro:Nat→Prop}{σ:Heap}{β:Nat→Value}{N:Nat}(aV:gI w ro σ β N){x:aC}{c:Value}(h:bA w ro σ β N x c):bA w ro σ β N (im σ x) c:=by
 induction h with
 |aq id c av ar=>
  simp only[im]
  split
  ·rename_i t n es ai
   rw[ar true t n es ai]
   have:=aV.dq id _ ai
   cases this with
   |fW _ _ _ ab=>exact .ad _ _ ab
  ·exact .aq id c av ar
 |ad x c h=>exact .ad x c h
 |agg cs c ab _ aY=>
  refine .agg _ c (by rw[pt];exact ab) fun j x aj=>?_
  obtain⟨y,aA,rfl⟩:=qA σ aj;exact aY j y aA
 |tuple cs c ab _ aY=>
  refine .tuple _ c (by rw[pt];exact ab) fun j x aj=>?_
  obtain⟨y,aA,rfl⟩:=qA σ aj;exact aY j y aA
 |ptr id off c ab ae=>exact .ptr id off c ab ae
 |dN id off c ab ae=>exact .dN id off c ab ae
 |dg id i off c ab ae=>exact .dg id i off c ab ae
 |fn f p q c d ab ae _ _ hv hy=>
  refine .fn f _ _ c d (by rw[pt];exact ab) (by rw[pt];exact ae) (fun j x aj=>?_) (fun j x aj=>?_)
  ·obtain⟨y,aA,rfl⟩:=qA σ aj
   exact hv j y aA
  ·obtain⟨y,aA,rfl⟩:=qA σ aj
   exact hy j y aA
 |ref id c ab ae=>exact .ref id c ab ae
 |top c=>exact .top c
mutual
def iK:aC→Bool
 | .ad _=>true
 | .agg cs=>fX cs
 | .tuple cs=>fX cs
 | .fn _ p q=>fX p&&fX q
 | .top=>true
 | .ptr _ _=>false
 | .dN _ _=>false
 | .dg _ _ _=>false
 | .aq _=>false
 | .ref _=>false
def fX:List aC→Bool
 |[]=>true
 |x::r=>iK x&&fX r
end
theorem pv: ∀{cs:List aC},fX cs=true→∀{j:Nat} {x:aC},cs[j]? =some x→iK x=true
 |[],_,j,x,h=>by simp at h
 |y::r,ag,j,x,h=>by
  simp only[fX,Bool.and_eq_true]at ag
  cases j with
  |zero=>simp at h;subst h;exact ag.1
  |succ j=>simp at h;exact pv ag.2 h
theorem B7(l:List aU):fX (l.map .ad)=true:=by
 induction l with
 |nil=>rfl
 |cons x r aY=>simp[fX,iK,aY]
theorem pw{w:World}{ro:Nat→Prop}{σ cc:Heap}{β rM:Nat→Value}{N M:Nat}{x:aC}{c:Value}(h:bA w ro σ β N x c)(ar:iK x=true):bA w ro cc rM M x c:=by
 induction h with
 |ad x c h=>exact .ad x c h
 |agg cs c ab _ aY=>
  simp only[iK]at ar;exact .agg cs c ab fun j x aj=>aY j x aj (pv ar aj)
 |tuple cs c ab _ aY=>
  simp only[iK]at ar;exact .tuple cs c ab fun j x aj=>aY j x aj (pv ar aj)
 |fn f p q c d ab ae _ _ hv hy=>
  simp only[iK,Bool.and_eq_true]at ar;exact .fn f p q c d ab ae (fun j x aj=>hv j x aj (pv ar.1 aj)) (fun j x aj=>hy j x aj (pv ar.2 aj))
 |top c=>exact .top c
 |ptr=>simp[iK]at ar
 |dN=>simp[iK]at ar
 |dg=>simp[iK]at ar
 |aq=>simp[iK]at ar
 |ref=>simp[iK]at ar
mutual
def AY(d:Nat):aC→aC
 | .ad x=>.ad x
 | .agg cs=>.agg (nw d cs)
 | .tuple cs=>.tuple (nw d cs)
 | .ptr id off=>.ptr (d+id) off
 | .dN id off=>.dN (d+id) off
 | .dg id i off=>.dg (d+id) i off
 | .aq id=>.aq (d+id)
 | .fn f p q=>.fn f (nw d p) (nw d q)
 | .ref id=>.ref (d+id)
 | .top=>.top
def nw(d:Nat):List aC→List aC
 |[]=>[]
 |x::r=>AY d x::nw d r
end
def mg(d:Nat):Heap→Heap
 |[]=>[]
 |(id,.box t cs)::r=>(d+id,.box t (nw d cs))::mg d r
 |(id,.row z t n es)::r=>(d+id,.row z t n es)::mg d r
 |(id,.bI bH)::r=>(d+id,.bI bH)::mg d r
def lW(d:Nat):ec→ec
 | .box t cs=>.box t (nw d cs)
 | .row z t n es=>.row z t n es
 | .bI bH=>.bI bH
theorem yQ(d:Nat): ∀(l:List aC),(nw d l).length=l.length
 |[]=>rfl
 |x::r=>by simp[nw,yQ d r]
theorem yR(d:Nat): ∀{l:List aC} {j:Nat} {x:aC},(nw d l)[j]? =some x→∃y,l[j]? =some y∧x=AY d y
 |[],j,x,h=>by simp[nw]at h
 |y::r,j,x,h=>by
  cases j with
  |zero=>simp[nw]at h;exact⟨y,by simp,h.symm⟩
  |succ j=>simp[nw]at h;simpa using yR d h
theorem SW(σ cc:Heap)(id:Nat):aE (σ++cc) id=(aE σ id).or (aE cc id):=by
 induction σ with
 |nil=>simp[aE]
 |cons p r aY=>
  obtain⟨k,o⟩:=p;simp only[List.cons_append,aE]
  split
  ·simp
  ·exact aY
theorem B8(d:Nat): ∀(σ:Heap) (id:Nat),aE (mg d σ) id=if d≤id then(aE σ (id-d)).map (lW d)else none
 |[],id=>by simp[mg,aE]
 |(k,.box t cs)::r,id=>by
  simp only[mg,aE,B8 d r]
  by_cases ab:d+k=id
  ·have ae:d≤id:=by omega
   have aw:k=id-d:=by omega
   simp[ae,aw,lW]
  ·by_cases ae:d≤id
   ·have aw: ¬k=id-d:=by omega
    simp[ab,ae,aw]
   ·simp[ab,ae]
 |(k,.row z t n es)::r,id=>by
  simp only[mg,aE,B8 d r]
  by_cases ab:d+k=id
  ·have ae:d≤id:=by omega
   have aw:k=id-d:=by omega
   simp[ae,aw,lW]
  ·by_cases ae:d≤id
   ·have aw: ¬k=id-d:=by omega
    simp[ab,ae,aw]
   ·simp[ab,ae]
 |(k,.bI bH)::r,id=>by
  simp only[mg,aE,B8 d r]
  by_cases ab:d+k=id
  ·have ae:d≤id:=by omega
   have aw:k=id-d:=by omega
   simp[ae,aw,lW]
  ·by_cases ae:d≤id
   ·have aw: ¬k=id-d:=by omega
    simp[ab,ae,aw]
   ·simp[ab,ae]
theorem bA.shift{w:World}{ro ro':Nat→Prop}{σ cc:Heap}{β rM:Nat→Value}{N M:Nat}{x:aC}{c:Value}(h:bA w ro σ β N x c)(cr: ∀b,ro b→ro' b)
 (LD: ∀id o,aE cc id=some o→id<M):
 bA w ro' (mg M σ++cc) (fun k=>if M≤k then β (k-M)else rM k) (M+N) (AY M x) c:=by
 have key: ∀id,aE (mg M σ++cc) (M+id)=(aE σ id).map (lW M):=by
  intro id;rw[SW,B8]
  have ab:M≤M+id:=by omega
  simp only[ab,if_true,Nat.add_sub_cancel_left]
  cases ao:aE σ id with
  |some o=>simp
  |none=>
   simp
   cases aJ:aE cc (M+id)with
   |none=>rfl
   |some o=>have:=LD _ _ aJ;omega
 induction h with
 |ad x c hx=>exact .ad x c (hx.keep (fun _ _=>rfl) cr)
 |agg cs c ao _ aY=>
  refine .agg _ c (by rw[yQ];exact ao) fun j x aj=>?_
  obtain⟨y,aA,rfl⟩:=yR M aj;exact aY j y aA
 |tuple cs c ao _ aY=>
  refine .tuple _ c (by rw[yQ];exact ao) fun j x aj=>?_
  obtain⟨y,aA,rfl⟩:=yR M aj;exact aY j y aA
 |ptr id off c av ar=>
  refine .ptr _ off c (by omega) fun t cs ai=>?_
  rw[key]at ai;simp only[Nat.le_add_right,if_true,Nat.add_sub_cancel_left]
  cases ao:aE σ id with
  |none=>simp[ao]at ai
  |some o=>
   cases o with
   |box bh cs'=>exact ar bh cs' ao
   |row=>simp[ao,lW]at ai
   |bI=>simp[ao,lW]at ai
 |dN id off c av ar=>
  refine .dN _ off c (by omega) fun t cs ai=>?_
  rw[key]at ai;simp only[Nat.le_add_right,if_true,Nat.add_sub_cancel_left]
  cases ao:aE σ id with
  |none=>simp[ao]at ai
  |some o=>
   cases o with
   |box bh cs'=>exact ar bh cs' ao
   |row=>simp[ao,lW]at ai
   |bI=>simp[ao,lW]at ai
 |dg id i off c av ar=>
  refine .dg _ i off c (by omega) fun z t n es ai=>?_
  rw[key]at ai;simp only[Nat.le_add_right,if_true,Nat.add_sub_cancel_left]
  cases ao:aE σ id with
  |none=>simp[ao]at ai
  |some o=>
   cases o with
   |box bh cs'=>simp[ao,lW]at ai
   |bI=>simp[ao,lW]at ai
   |row hs bh bL eD=>
    simp only[ao,Option.map_some,lW,Option.some.injEq,ec.row.injEq]at ai;obtain⟨rfl,rfl,rfl,rfl⟩:=ai;exact ar _ _ _ _ ao
 |aq id c av ar=>
  refine .aq _ c (by omega) fun z t n es ai=>?_
  rw[key]at ai;simp only[Nat.le_add_right,if_true,Nat.add_sub_cancel_left]
  cases ao:aE σ id with
  |none=>simp[ao]at ai
  |some o=>
   cases o with
   |box bh cs'=>simp[ao,lW]at ai
   |bI=>simp[ao,lW]at ai
   |row hs bh bL eD=>exact ar _ _ _ _ ao
 |fn f p q c d ab ae _ _ hv hy=>
  refine .fn f _ _ c d (by rw[yQ];exact ab) (by rw[yQ];exact ae) (fun j x aj=>?_) (fun j x aj=>?_)
  ·obtain⟨y,aA,rfl⟩:=yR M aj
   exact hv j y aA
  ·obtain⟨y,aA,rfl⟩:=yR M aj
   exact hy j y aA
 |ref id c av ar=>
  refine .ref _ c (by omega) fun bH ai=>?_
  rw[key]at ai;simp only[Nat.le_add_right,if_true,Nat.add_sub_cancel_left]
  cases ao:aE σ id with
  |none=>simp[ao]at ai
  |some o=>
   cases o with
   |box=>simp[ao,lW]at ai
   |row=>simp[ao,lW]at ai
   |bI km=>exact ar km ao
 |top c=>exact .top c
def nr(P:Program)(f:FuncId):Bool:=
 match P.funcs[f]? with
 |some fn=>!(fn.name== "runtime.NumGoroutine")&&fn.body.isSome
 |none=>false
theorem AI{P:Program}{f:FuncId}(h:nr P f=true)(args:Array Value)(w:World):(callFunc f args).run P w= .ok (.enter f args) w:=by
 unfold nr at h
 split at h
 ·rename_i fn hf
  simp only[Bool.and_eq_true,Bool.not_eq_true']at h
  have ae:fn.body≠none:=by intro e;simp[e]at h
  have aw:fn.name≠ "runtime.NumGoroutine" :=by simpa using h.1
  simp[callFunc,hf,ae,aw]
 ·cases h
section
variable {P:Program} {G:aR} {s:aQ} {Q:Exit→aQ→Prop}
theorem nx.call{o:Oper}{x:Operand}{xs:Array Operand}{ts:Array TypeId}(au:o.op= .call {callee:=.value x,args:=xs,argTypes:=ts}){f:FuncId}(hx:aP G s x= .fn (.func f) [] [])
 (hJ:nr P f=true){args:List aC}(jc:xs.toList.map (fun y=>im s.heap (aP G s y))=args)(LF:fX args=true){R:aC→Heap→Prop}(hc:eJ P G f args [] 0 R){K:Nat}{r:aC}{cc:Heap}
 (ib: ∀eG gl,R eG gl→eG=r∧gl=cc)(zcW:iq K r=true)(SX:kU K cc=true)(ag:s.base≤s.next):
 nx P G o s ({s with heap:=mg s.next cc++s.heap,next:=s.next+K}.put o.dst (AY s.next r)):=by
 intro E a w ⟨β,ro,h⟩ zj3 zj4 zcX
 have qB:=h.eval x
 rw[hx]at qB
 generalize he:a.eval x=Eh at qB
 cases qB with
 |fn _ _ _ c d ab ae _ _=>
  have hQ:c= #[]:=by simpa using ab
  have p8:d= #[]:=by simpa using ae
  subst hQ p8;unfold Oper.wp;simp only[execOp,au,resolve,he,Deferred.ofValue,Sem.run_bind,Sem.run_pure,Result.andThen_ok,invoke,Array.empty_append,Array.append_empty];rw[AI hJ]
  have hlen:xs.toList.length=args.length:=by have:=congrArg List.length jc;simpa using this
  have gY:=hc w β ro (xs.map a.eval) (by simpa using hlen) (fun i y aA=>by
   have hi:(xs.toList.map (fun y=>im s.heap (aP G s y)))[i]? =some y:=by rw[jc];exact aA
   rw[List.getElem?_map]at hi
   cases LG:xs.toList[i]? with
   |none=>simp[LG]at hi
   |some z=>
    simp[LG]at hi
    have az:=Q1 h.heap (h.eval z)
    rw[hi]at az
    have zcY:xs[i]? =some z:=by simpa using LG
    have c5:(xs.map a.eval).getD i undef=a.eval z:=by simp[zcY]
    rw[c5]
    exact pw az (pv LF aA)) ⟨by simp[aE],by simp[aE],fun b _ ⟨_,_,ai,_⟩=>by simp[aE]at ai,h.heap.lt⟩ h.hL (by simp[aE])
  refine Calls.mono gY fun e w' aG=>?_
  obtain⟨v,eG,gl,cK,ro',bL,rfl,zcZ,dE,gf,cI⟩:=aG;obtain⟨rfl,rfl⟩:=ib eG gl zcZ
  have nM: ∀b,¬Own ([]:Heap) β b:=fun b ⟨_,_,ai,_⟩=>by simp[aE]at ai
  have oF: ∀b,b<w.heap.size→w'.heap[b]? =w.heap[b]? :=fun b ag=>cI.frame b ag (nM b)
  have wh:=dE.lower zcW
  have gh:=h.heap
  have LH:=fun id o ai=>h.trans.new id o ai
  have cr: ∀b,ro b→w'.heap[b]? =w.heap[b]? :=fun b ag=>oF b (h.heap.lt b ag)
  have rJ: ∀k p b,aE s.heap k=some p→p.live=true→cz (β k)=some b→b<w.heap.size:=fun k p b an ar bc=>(h.heap.dq k p an).iG ar bc
  have F1: ∀k p b,aE gl k=some p→p.live=true→cz (cK k)=some b→w.heap.size≤b:=by
   intro k p b an ar bc
   rcases cI.fU b ⟨k,p,an,ar,bc⟩with hc|hc
   ·exact absurd hc (nM b)
   ·exact hc

  have look: ∀id,aE (mg s.next gl++s.heap) id=if s.next≤id then(aE gl (id-s.next)).map (lW s.next)else aE s.heap id:=by
   intro id;rw[SW,B8]
   by_cases hi:s.next≤id
   ·simp only[hi,if_true]
    cases ao:aE gl (id-s.next)with
    |some p=>simp
    |none=>
     simp
     cases aJ:aE s.heap id with
     |none=>rfl
     |some p=>have:=LH _ _ aJ;omega
   ·simp[hi]
  have up: ∀x c,bA w ro s.heap β s.next x c→bA w' (fun b=>ro b∨ro' b) (mg s.next gl++s.heap) (fun k=>if s.next≤k then cK (k-s.next)else β k) (s.next+K) x c:=by
   intro x c hx
   induction hx with
   |ad x c hx=>exact .ad x c (hx.keep cr fun _ h=>.inl h)
   |agg cs c ao _ aY=>exact .agg cs c ao aY
   |tuple cs c ao _ aY=>exact .tuple cs c ao aY
   |ptr k off c av ar=>
    have an: ¬s.next≤k:=by omega
    exact .ptr k off c (by omega) fun t cs bz=>by rw[look,if_neg an]at bz;simp only[an,if_false];exact ar t cs bz
   |dN k off c av ar=>
    have an: ¬s.next≤k:=by omega
    exact .dN k off c (by omega) fun t cs bz=>by rw[look,if_neg an]at bz;simp only[an,if_false];exact ar t cs bz
   |dg k i off c av ar=>
    have an: ¬s.next≤k:=by omega
    exact .dg k i off c (by omega) fun z t n es bz=>by rw[look,if_neg an]at bz;simp only[an,if_false];exact ar z t n es bz
   |aq k c av ar=>
    have an: ¬s.next≤k:=by omega
    exact .aq k c (by omega) fun z t n es bz=>by rw[look,if_neg an]at bz;simp only[an,if_false];exact ar z t n es bz
   |fn f p q c d ab ae _ _ hv hy=>exact .fn f p q c d ab ae hv hy
   |ref k c av ar=>
    have an: ¬s.next≤k:=by omega
    exact .ref k c (by omega) fun bH bz=>by rw[look,if_neg an]at bz;simp only[an,if_false];exact ar bH bz
   |top c=>exact .top c
  have SY: ∀b,ro' b→ro b∨w.heap.size≤b:=fun b ag=>by
   rcases cI.hz b ag with h|h|h
   ·exact .inl h
   ·exact absurd h (nM b)
   ·exact .inr h
  refine zcX _ _ ⟨fun k=>if s.next≤k then cK (k-s.next)else β k,fun b=>ro b∨ro' b,dn.put (s:={s with heap:=mg s.next gl++s.heap,next:=s.next+K}) ⟨h.defers,h.size,fun i x hx=>up _ _ (h.slot i x hx),⟨fun id p ai=>?_,?_,?_,?_⟩,?_,?_,h.base⟩ o.dst _ _ ?_⟩ oF
  ·simp only[look]at ai
   by_cases hi:s.next≤id
   ·simp only[hi,if_true]at ai
    cases ao:aE gl (id-s.next)with
    |none=>simp[ao]at ai
    |some q=>
     simp[ao]at ai;subst ai;obtain⟨_,v7⟩:=qc SX ao
     have fM:=gf.dq _ q ao
     cases fM with
     |box t cs b arr aD bg cM dU=>
      refine .box t _ b arr (by simp[hi,aD]) bg (by rw[yQ];exact cM) fun j x aj=>?_
      obtain⟨y,aA,rfl⟩:=yR s.next aj;exact bA.shift ((dU j y aA).lower (ru (v7 t cs rfl) aA)) (fun _ h=>.inr h) LH
     |row t n es xs aD bg cM=>exact .row t n es xs (by simp only[hi,if_true];exact aD) bg fun j x aj=>(cM j x aj).keep (fun _ _=>rfl) fun _ h=>.inr h
     |fW t n es aD=>exact .fW t n es (by simp only[hi,if_true];exact aD.keep (fun _ _=>rfl) fun _ h=>.inr h)
     |bI bH b o aD bg cM=>exact .bI bH b o (by simp only[hi,if_true];exact aD) bg (by simp only[hi,if_true];exact bH.mono _ _ _ _ (fun x c h=>h.keep (fun _ _=>rfl) fun _ h=>.inr h) cM)
   ·simp only[hi,if_false]at ai
    have fM:=h.heap.dq id p ai
    cases fM with
    |box t cs b arr aD bg cM dU=>
     have j8:=rJ id _ b ai rfl (by rw[aD];rfl)
     exact .box t cs b arr (by simp only[hi,if_false];exact aD) ((oF b j8).trans bg) cM fun j x aj=>up _ _ (dU j x aj)
    |row t n es xs aD bg cM=>
     exact .row t n es xs (by simp only[hi,if_false];exact aD.keep (fun b ag=>oF b (aD.iG ag).1) cI.size) bg fun j x aj=>(cM j x aj).keep cr fun _ h=>.inl h
    |fW t n es aD=>exact .fW t n es (by simp only[hi,if_false];exact aD.keep cr fun _ h=>.inl h)
    |bI bH b o aD bg cM=>exact .bI bH b o (by simp only[hi,if_false];exact aD) ((oF b (Array.getElem?_eq_some_iff.1 bg).1).trans bg) (by simp only[hi,if_false];exact bH.mono _ _ _ _ (fun x c h=>h.keep cr fun _ h=>.inl h) cM)
  ·intro id iw p gW b ai dQ ar hU bc eH
   rw[look]at ai dQ
   by_cases hi:s.next≤id
   ·simp only[hi,if_true]at ai bc
    cases ao:aE gl (id-s.next)with
    |none=>simp[ao]at ai
    |some q=>
     have sY:q.live=true:=by simp[ao]at ai;subst ai;cases q<;>first|rfl|exact ar
     have jP:=F1 _ q b ao sY bc
     by_cases hC:s.next≤iw
     ·simp only[hC,if_true]at dQ eH
      cases fK:aE gl (iw-s.next)with
      |none=>simp[fK]at dQ
      |some iF=>
       have B0:iF.live=true:=by simp[fK]at dQ;subst dQ;cases iF<;>first|rfl|exact hU
       have:=gf.inj _ _ q iF b ao fK sY B0 bc eH
       omega
     ·simp only[hC,if_false]at dQ eH
      have:=rJ iw gW b dQ hU eH
      omega
   ·simp only[hi,if_false]at ai bc
    have LI:=rJ id p b ai ar bc
    by_cases hC:s.next≤iw
    ·simp only[hC,if_true]at dQ eH
     cases fK:aE gl (iw-s.next)with
     |none=>simp[fK]at dQ
     |some iF=>
      have B0:iF.live=true:=by simp[fK]at dQ;subst dQ;cases iF<;>first|rfl|exact hU
      have jP:=F1 _ iF b fK B0 eH
      omega
    ·simp only[hC,if_false]at dQ eH
     exact h.heap.inj id iw p gW b ai dQ ar hU bc eH
  ·rintro b ag ⟨id,p,ai,ar,bc⟩
   rw[look]at ai
   by_cases hi:s.next≤id
   ·simp only[hi,if_true]at ai bc
    cases ao:aE gl (id-s.next)with
    |none=>simp[ao]at ai
    |some q=>
     have sY:q.live=true:=by simp[ao]at ai;subst ai;cases q<;>first|rfl|exact ar
     have jP:=F1 _ q b ao sY bc
     rcases ag with ag|ag
     ·have:=h.heap.lt b ag;omega
     ·exact gf.e8 b ag ⟨_,q,ao,sY,bc⟩
   ·simp only[hi,if_false]at ai bc
    have LI:=rJ id p b ai ar bc
    rcases ag with ag|ag
    ·exact h.heap.e8 b ag ⟨id,p,ai,ar,bc⟩
    ·rcases SY b ag with hc|hc
     ·exact h.heap.e8 b hc ⟨id,p,ai,ar,bc⟩
     ·omega
  ·intro b ag
   rcases ag with ag|ag
   ·exact Nat.lt_of_lt_of_le (h.heap.lt b ag) cI.size
   ·exact gf.lt b ag
  ·exact h.hL.keep cr fun _ h=>.inl h
  ·have t:=h.trans
   refine⟨cI.os.trans t.os,cI.tape.trans t.tape,cI.output.trans t.output,Nat.le_trans t.size cI.size,fun b j8 gQ=>(oF b (Nat.lt_of_lt_of_le j8 t.size)).trans (t.frame b j8 gQ),?_,fun b ag=>.inl (t.gA b ag),?_,?_,?_,?_⟩
   ·intro b ag
    rcases ag with ag|ag
    ·exact t.hz b ag
    ·rcases SY b ag with hc|hc
     ·exact t.hz b hc
     ·exact .inr (.inr (Nat.le_trans t.size hc))
   ·rintro b ⟨id,p,ai,ar,bc⟩
    rw[look]at ai
    by_cases hi:s.next≤id
    ·simp only[hi,if_true]at ai bc
     cases ao:aE gl (id-s.next)with
     |none=>simp[ao]at ai
     |some q=>
      have sY:q.live=true:=by simp[ao]at ai;subst ai;cases q<;>first|rfl|exact ar
      exact .inr (Nat.le_trans t.size (F1 _ q b ao sY bc))
    ·simp only[hi,if_false]at ai bc
     exact t.fU b ⟨id,p,ai,ar,bc⟩
   ·intro id bf p ai
    have ab:=h.base
    have hi: ¬s.next≤id:=by omega
    rw[look,if_neg hi]at ai;simp only[hi,if_false];exact t.ea id bf p ai
   ·intro id p ai
    simp only[look]at ai
    by_cases hi:s.next≤id
    ·simp only[hi,if_true]at ai
     cases ao:aE gl (id-s.next)with
     |none=>simp[ao]at ai
     |some q=>
      have:=(qc SX ao).1
      show id<s.next+K;omega
    ·show id<s.next+K
     omega
   ·have:=h.base
    show E.n≤s.next+K;omega
  ·exact bA.shift wh (fun _ h=>.inr h) LH
end
end Go.aK
namespace Go.aK
open Go
section
variable {P:Program} {G:aR} {o:Oper} {s:aQ}
theorem de.SZ{w:World}{ro:Nat→Prop}{n:Nat}{es:List (List aU)}{c:Value}(h:de w ro (.aq n es) c): ∃b cap,c= .slice b es.length cap:=by
 cases h with
 |aq _ _ b cap=>exact⟨b,cap,rfl⟩
def lN(σ:Heap):aC→Option Nat
 | .ad (.aq _ es)=>some es.length
 | .ad (.v (.slice none 0 0))=>some 0
 | .aq id=>match aE σ id with
  |some (.row _ _ _ es)=>some es.length
  |_=>none
 |_=>none
theorem zc0{w:World}{ro:Nat→Prop}{σ:Heap}{β:Nat→Value}{N:Nat}(aV:gI w ro σ β N){x:aC}{c:Value}(h:bA w ro σ β N x c){m:Nat}(hm:lN σ x=some m): ∃b cap,c= .slice b m cap:=by
 cases h with
 |ad x c hx=>
  cases hx with
  |v _ ab=>
   cases c with
   |slice a l ht=>
    cases a with
    |none=>
     cases l with
     |zero=>
      cases ht with
      |zero=>simp[lN]at hm;subst hm;exact⟨_,_,rfl⟩
      |succ=>simp[lN]at hm
     |succ=>simp[lN]at hm
    |some=>simp[lN]at hm
   |_=>simp[lN]at hm
  |ptr=>simp[lN]at hm
  |mp=>simp[lN]at hm
  |ei=>simp[lN]at hm
  |li=>simp[lN]at hm
  |aq n es b cap c ab ae aw aM bn=>
   simp only[lN,Option.some.injEq]at hm;subst hm;exact⟨b,cap,rfl⟩
 |aq id c av ar=>
  simp only[lN]at hm
  split at hm
  ·rename_i z t n es ai
   simp only[Option.some.injEq]at hm;subst hm;rw[ar z t n es ai]
   have:=aV.dq id _ ai
   cases this with
   |row _ _ _ xs ab=>
    rcases ab.2 with⟨⟨_,az,_⟩,aT⟩|⟨g,cap,cur,az,_⟩
    ·rw[az,aT];exact⟨_,_,rfl⟩
    ·rw[az];exact⟨_,_,rfl⟩
   |fW _ _ _ ab=>exact ab.SZ
  ·cases hm
 |_=>simp[lN]at hm
def isSlice(P:Program)(t:TypeId):Bool:=
 match P.underlying t with
 |some (.slice _)=>true
 |_=>false
theorem LJ(x:Operand)(t:TypeId)(au:o.op= .call {callee:=.builtin .len,args:=#[x],argTypes:=#[t]})(aJ:isSlice P t=true){m:Nat}(hm:lN s.heap (aP G s x)=some m):
 cY P G o s (.ad (.v (.int .i64 (m:Int)))):=
 fun _ a w β ro ah=>by
  obtain⟨b,cap,hc⟩:=zc0 ah.heap (ah.eval x) hm;unfold isSlice at aJ
  split at aJ
  ·rename_i e hu
   refine⟨.int .i64 m,?_,.e3 rfl⟩
   simp[execOp,au,resolve,invoke,builtin,hc,Builtin.len_,run_underlying hu,goInt]
  ·cases aJ
theorem LK(x:Operand)(t:TypeId)(au:o.op= .call {callee:=.builtin .len,args:=#[x],argTypes:=#[t]})(aJ:P.underlying t=some .string){b:ByteArray}(hx:aP G s x= .ad (.v (.string b))):
 cY P G o s (.ad (.v (.int .i64 (b.size:Int)))):=
 fun _ a w β ro ah=>by
  refine⟨.int .i64 b.size,?_,.e3 rfl⟩
  simp[execOp,au,resolve,invoke,builtin,ah.dR hx,Builtin.len_,run_underlying aJ,goInt]
def AF(P:Program)(t:TypeId):Option Nat:=
 match P.underlying t with
 |some (.array n _)=>some n
 |some (.pointer a)=>match P.underlying a with
  |some (.array n _)=>some n
  |_=>none
 |_=>none
theorem S1(x:Operand)(t:TypeId)(au:o.op= .call {callee:=.builtin .len,args:=#[x],argTypes:=#[t]}){n:Nat}(aJ:AF P t=some n):
 cY P G o s (.ad (.v (.int .i64 (n:Int)))):=
 fun _ a w β ro ah=>by
  refine⟨.int .i64 n,?_,.e3 rfl⟩
  unfold AF at aJ
  split at aJ
  ·rename_i m e hu
   simp only[Option.some.injEq]at aJ;subst aJ;simp[execOp,au,resolve,invoke,builtin,Builtin.len_,run_underlying hu,goInt]
  ·rename_i p hu
   split at aJ
   ·rename_i m e zc1
    simp only[Option.some.injEq]at aJ;subst aJ;simp[execOp,au,resolve,invoke,builtin,Builtin.len_,run_underlying hu,run_underlying zc1,goInt]
   ·cases aJ
  ·cases aJ
def kS(P:Program)(t:TypeId):Option Nat:=
 match P.underlying t with
 |some (.slice e)=>(P.info? e).map (·.size)
 |_=>none
theorem wN{t n:Nat}(h:kS P t=some n): ∃e,P.underlying t=some (.slice e)∧∀w,(sizeOf e).run P w= .ok n w:=by
 unfold kS at h
 split at h
 ·rename_i e hu
  cases hi:P.info? e with
  |none=>simp[hi]at h
  |some i=>
   simp[hi]at h;subst h;exact⟨e,hu,fun w=>by simp[sizeOf,typeInfo,hi]⟩
 ·cases h
def mM(σ:Heap)(n j:Nat):aC→Option aC
 | .ad (.aq m es)=>if m=n then match es[j]? with
  |some e=>some (.ad (.ptr e))
  |none=>none
  else none
 | .aq id=>match aE σ id with
  |some (.row false _ m es)=>if m=n∧j<es.length then some (.dg id j 0)else none
  |some (.row true _ m es)=>if m=n then match es[j]? with
   |some e=>some (.ad (.ptr e))
   |none=>none
   else none
  |_=>none
 |_=>none
theorem de.elem{w:World}{ro:Nat→Prop}{n:Nat}{es:List (List aU)}{c:Value}(h:de w ro (.aq n es) c){j:Nat}{e:List aU}(aj:es[j]? =some e):
 ∃a cap,c= .slice (some a) es.length cap∧de w ro (.ptr e) (.pointer (some (a.add (j*n)))):=by
 cases h with
 |aq _ _ b cap f ab ae aw aM bn=>
  have dj:j<es.length:=(List.getElem?_eq_some_iff.1 aj).1
  obtain⟨a,rfl,hc⟩:=aM (by omega)
  have pn:e.length=n:=aw e (List.mem_of_getElem? aj)
  have FV:j*n+n≤es.length*n:=by rw[←Nat.succ_mul];exact Nat.mul_le_mul_right n dj
  refine⟨a,cap,rfl,.ptr _ _ (fun k=>f (j*n+k)) (fun k x an=>?_) (fun k x an=>?_)⟩
  ·have nD:k<n:=by have:=(List.getElem?_eq_some_iff.1 an).1;omega
   rw[uN,yH];exact hc _ (by omega)
  ·have nD:k<n:=by have:=(List.getElem?_eq_some_iff.1 an).1;omega
   exact bn _ _ (by rw[pk aw aj k nD];exact an)
theorem S2{w:World}{ro:Nat→Prop}{σ:Heap}{β:Nat→Value}{N:Nat}(aV:gI w ro σ β N){x:aC}{c:Value}(h:bA w ro σ β N x c){n j:Nat}{p:aC}(ar:mM σ n j x=some p):
 ∃a len cap,c= .slice (some a) len cap∧j<len∧bA w ro σ β N p (.pointer (some (a.add (j*n)))):=by
 cases h with
 |ad x c hx=>
  cases x with
  |v=>simp[mM]at ar
  |ptr=>simp[mM]at ar
  |mp=>simp[mM]at ar
  |ei=>simp[mM]at ar
  |li=>simp[mM]at ar
  |aq m es=>
   simp only[mM]at ar
   split at ar
   ·rename_i hm
    subst hm
    split at ar
    ·rename_i e he
     simp only[Option.some.injEq]at ar;subst ar;obtain⟨a,cap,hc,ah⟩:=hx.elem he;exact⟨a,es.length,cap,hc,(List.getElem?_eq_some_iff.1 he).1,.ad _ _ ah⟩
    ·cases ar
   ·cases ar
 |aq id c av aG=>
  simp only[mM]at ar
  split at ar
  ·rename_i t m es ai
   split at ar
   ·rename_i hm
    obtain⟨rfl,aj⟩:=hm;simp only[Option.some.injEq]at ar;subst ar
    have dS:=aV.dq id _ ai
    cases dS with
    |row _ _ _ xs ab=>
     rcases ab.2 with⟨_,aT⟩|⟨g,cap,cur,az,_⟩
     ·omega
     ·rw[aG _ _ _ _ ai,az]
      refine⟨_,_,_,rfl,aj,.dg _ _ _ _ av fun hs bh bL eD dQ=>?_⟩
      rw[ai]at dQ;simp only[Option.some.injEq,ec.row.injEq]at dQ;obtain⟨_,_,rfl,_⟩:=dQ;exact⟨g,_,_,az,by rw[addLit];simp⟩
   ·cases ar
  ·rename_i t m es ai
   split at ar
   ·rename_i hm
    subst hm
    split at ar
    ·rename_i e he
     simp only[Option.some.injEq]at ar;subst ar
     have dS:=aV.dq id _ ai
     cases dS with
     |fW _ _ _ ab=>
      obtain⟨a,cap,hc,ah⟩:=ab.elem he;exact⟨a,es.length,cap,by rw[aG _ _ _ _ ai,hc],(List.getElem?_eq_some_iff.1 he).1,.ad _ _ ah⟩
    ·cases ar
   ·cases ar
  ·cases ar
 |_=>simp[mM]at ar
theorem S3(t:TypeId)(x i:Operand)(au:o.op= .indexAddr t x i){n:Nat}(aJ:kS P t=some n){k:IntKind}{j:Nat}(hi:aP G s i= .ad (.v (.int k (j:Int)))){p:aC}(ar:mM s.heap n j (aP G s x)=some p):
 cY P G o s p:=
 fun _ a w β ro ah=>by
  obtain⟨c7,len,cap,hc,aj,dE⟩:=S2 ah.heap (ah.eval x) ar;obtain⟨e,hu,bT⟩:=wN aJ;refine⟨_,?_,dE⟩
  have nv:(0:Int)≤j∧(j:Int)<len:=⟨by omega,by omega⟩
  simp[execOp,au,hc,ah.dR hi,Instr.indexAt,asIntOf,run_underlying hu,aj,bT]
def uc(P:Program)(t:TypeId):Option (Nat × Nat):=
 match P.underlying t with
 |some (.array n e)=>(P.info? e).map fun i=>(n,i.size)
 |_=>none
theorem LL(t:TypeId)(x i:Operand)(au:o.op= .indexAddr t x i){len n:Nat}(aJ:uc P t=some (len,n)){k:IntKind}{j:Nat}(hi:aP G s i= .ad (.v (.int k (j:Int))))(aj:j<len)
 {cs:List aC}(fj:fG s.heap (aP G s x)=some cs){p:aC}(ar:jF (j*n) (aP G s x)=some p):
 cY P G o s p:=
 fun _ a w β ro ah=>by
  obtain⟨c7,hc,dE⟩:=Ss ar fj (ah.eval x);unfold uc at aJ
  split at aJ
  ·rename_i m e hu
   cases wO:P.info? e with
   |none=>simp[wO]at aJ
   |some hk=>
    simp[wO]at aJ;obtain⟨rfl,rfl⟩:=aJ;refine⟨_,?_,dE⟩
    simp[execOp,au,hc,ah.dR hi,Instr.indexAt,asIntOf,run_underlying hu,Instr.sureAddr,aj,sizeOf,typeInfo,wO]
  ·cases aJ
theorem S4(t:TypeId)(x i:Operand)(au:o.op= .index t x i)(aJ:P.underlying t=some .string){k:IntKind}{j:Nat}(hi:aP G s i= .ad (.v (.int k (j:Int)))){b:ByteArray}(hx:aP G s x= .ad (.v (.string b)))
 {u:UInt8}(hu:b.data.toList[j]? =some u):cY P G o s (.ad (.v (.int .u8 (u.toNat:Int)))):=
 fun _ a w β ro ah=>by
  have aj:b[j]? =some u:=by
   have ab:j<b.size:=by have:=(List.getElem?_eq_some_iff.1 hu).1;simpa using this
   rw[ByteArray.getElem?_lt' b j ab]
   rw[List.getElem?_eq_some_iff]at hu
   obtain⟨_,ae⟩:=hu;simp only[Option.some.injEq];rw[←ae];rfl
  exact⟨_,by simp[execOp,au,ah.dR hx,ah.dR hi,Instr.index,asIntOf,run_underlying aJ,aj],.e3 rfl⟩
def vO(P:Program)(t:TypeId)(f:Nat):Option (Nat × Option Nat):=
 match P.underlying t with
 |some (.struct fs)=>match fs[f]? with
  |some fd=>if scalar P fd.type then some (fd.offset,none)else match mb P fd.type with
   |some n=>some (fd.offset,some n)
   |none=>none
  |none=>none
 |_=>none
theorem S5(t:TypeId)(x:Operand)(f:Nat)(au:o.op= .field t x f){off:Nat}(aJ:vO P t f=some (off,none)){cs:List aC}(hx:aP G s x= .agg cs){v:aC}(az:cs[off]? =some v):
 cY P G o s v:=
 fun _ a w β ro ah=>by
  have h:=ah.eval x
  rw[hx]at h;generalize he:a.eval x=c at h
  cases h with
  |agg _ c ao hc=>
   have bE:off<c.size:=by have:=(List.getElem?_eq_some_iff.1 az).1;omega
   unfold vO at aJ
   split at aJ
   ·rename_i fs hu
    split at aJ
    ·rename_i fd hf
     split at aJ
     ·rename_i hsc
      simp only[Option.some.injEq,Prod.mk.injEq,and_true]at aJ;subst aJ;refine⟨c[fd.offset],?_,by simpa[bE]using hc _ v az⟩
      simp[execOp,au,he,Instr.field,run_underlying hu,hf,asAgg,part,xT hsc,bE]
     ·split at aJ
      ·simp at aJ
      ·cases aJ
    ·cases aJ
   ·cases aJ
theorem S6(t:TypeId)(x:Operand)(f:Nat)(au:o.op= .field t x f){off n:Nat}(aJ:vO P t f=some (off,some n)){cs:List aC}(hx:aP G s x= .agg cs)(hn:off+n≤cs.length):
 cY P G o s (.agg ((cs.drop off).take n)):=
 fun _ a w β ro ah=>by
  have h:=ah.eval x
  rw[hx]at h;generalize he:a.eval x=c at h
  cases h with
  |agg _ c ao hc=>
   unfold vO at aJ
   split at aJ
   ·rename_i fs hu
    split at aJ
    ·rename_i fd hf
     split at aJ
     ·simp at aJ
     ·split at aJ
      ·rename_i m b4
       simp only[Option.some.injEq,Prod.mk.injEq]at aJ;obtain⟨rfl,rfl⟩:=aJ;obtain⟨g1,g2⟩:=FR b4 w;refine⟨.agg (c.extract fd.offset (fd.offset+m)),?_,.agg _ _ (by simp;omega) fun j y aj=>?_⟩
       ·simp[execOp,au,he,Instr.field,run_underlying hu,hf,asAgg,part,g1,g2]
       ·rw[List.getElem?_take]at aj
        split at aj
        ·rename_i S7
         rw[List.getElem?_drop]at aj
         have:=hc _ y aj
         have ab:fd.offset+j<c.size:=by omega
         have ae:j<(c.extract fd.offset (fd.offset+m)).size:=by simp;omega
         simp only[Array.getD,ae,dif_pos];simpa[ab]using this
        ·cases aj
      ·cases aJ
    ·cases aJ
   ·cases aJ
def places(P:Program)(t:TypeId):Option (Nat→Option (Nat × Nat)):=
 match P.underlying t with
 |some (.struct fs)=>if fs.toList.all fun f=>(P.info? f.type).isSome then some fun i=>(fs.toList.map fun f=>(f.offset,((P.info? f.type).map (·.size)).getD 0))[i]? else none
 |some (.array _ e)=>match P.info? e with
  |some inf=>some fun i=>some (i*inf.size,inf.size)
  |none=>none
 |_=>none
def kk(place:Nat→Option (Nat × Nat)):List aC→List (Nat × aC)→Option (List aC)
 |cs,[]=>some cs
 |cs,(i,v)::rest=>match place i with
  |some (off,size)=>if(c1 v).length=size∧off+size≤cs.length then kk place (en cs off (c1 v)) rest else none
  |none=>none
theorem S8(off:Nat): ∀(vs:List Value) (k:Nat) (cs:Array Value),off+k+vs.length≤cs.size→
 ((vs.zipIdx k).foldl (fun(cs:Array Value) (x:Value × Nat)=>cs.setIfInBounds (off+x.2) x.1) cs).toList=en cs.toList (off+k) vs
 |[],k,cs,h=>by simp[en]
 |v::vs,k,cs,h=>by
  simp only[List.zipIdx_cons,List.foldl_cons];rw[S8 off vs (k+1) (cs.setIfInBounds (off+k) v) (by simp at h⊢;omega)]
  have e:=list_seg_step cs.toList (off+k) v vs (by simp at h⊢;omega)
  simp only[en,Array.toList_setIfInBounds,←Nat.add_assoc]at*;simp only[List.append_assoc]at e;rw[e];simp[Nat.add_assoc]
theorem F2{place place':Nat→Option (Nat × Nat)}(s7: ∀i p,place i=some p→place' i=some p){w:World}{ro:Nat→Prop}{σ:Heap}{β:Nat→Value}{N:Nat}(aV:gI w ro σ β N):
    ∀{ps:List (Nat × aC)} {qs:List (Nat × Value)} {cs ds:List aC} {xs:Array Value},kk place cs ps=some ds→ps.map (·.1)=qs.map (·.1)→(∀(j:Nat) (p:Nat × aC) (q:Nat × Value),ps[j]? =some p→qs[j]? =some q→bA w ro σ β N p.2 q.2∧(c1 p.2).all (eZ σ)=true)→
    xs.size=cs.length→(∀j x,cs[j]? =some x→bA w ro σ β N x (xs.getD j undef))→
    ∃ys,Instr.fill place' xs qs=some ys∧ys.size=ds.length∧∀j x,ds[j]? =some x→bA w ro σ β N x (ys.getD j undef)
  |[],qs,cs,ds,xs,hf,an,_,ao,hx=>by
    simp[kk]at hf;subst hf
    have:qs=[]:=by cases qs with
      |nil=>rfl
      |cons=>simp at an
    subst this;exact⟨xs,by simp[Instr.fill],ao,hx⟩
  |(i,v)::ps,[],cs,ds,xs,hf,an,_,ao,hx=>by simp at an
  |(i,v)::ps,(yS,u)::qs,cs,ds,xs,hf,an,ah,ao,hx=>by
    simp only[List.map_cons,List.cons.injEq]at an;obtain⟨rfl,an⟩:=an;simp only[kk]at hf
    split at hf
    · rename_i off size ar
      split at hf
      · rename_i hc
        obtain⟨yT,LM⟩:=hc
        have dE:bA w ro σ β N v u:=(ah 0 (i,v) (i,u) rfl rfl).1
        have fi:(c1 v).all (eZ σ)=true:=(ah 0 (i,v) (i,u) rfl rfl).2
        obtain⟨g1,g2,_⟩:=dE.c1 fi aV
        have S9:=S8 off u.cells.toList 0 xs (by simp;omega)
        simp only[Nat.add_zero]at S9
        have aY:=F2 s7 aV (ps:=ps) (qs:=qs) (cs:=en cs off (c1 v)) (ds:=ds) (xs:=(en xs.toList off u.cells.toList).toArray) hf an (fun j p q ab ae=>ah (j+1) p q ab ae)
          (by rw[List.size_toArray,po _ _ _ (by simp;omega),po _ _ _ (by omega)];simpa using ao) (fun j x aj=>by
            have:=FU (bA w ro σ β N) undef (cs:=cs) (vs:=c1 v) (xs:=xs.toList) (ys:=u.cells.toList) (off:=off) (by simp;omega) (by simp;omega) (by omega)
              (fun j x aj=>by have:=hx j x aj;simpa[Array.getD_eq_getD_getElem?,List.getD]using this) (fun j x aj=>by have:=g2 j x aj;simpa[Array.getD_eq_getD_getElem?,List.getD]using this) j x aj
            simpa[Array.getD_eq_getD_getElem?,List.getD]using this)
        obtain⟨ys,ab,ae,aw⟩:=aY;refine⟨ys,?_,ae,aw⟩
        rw[Instr.fill.eq_2,s7 _ _ ar];simp only;rw[if_neg (by simp;omega)]
        have zc2:Array.foldl (fun cs x=>match x with
            |(c,j)=>cs.setIfInBounds (off+j) c) xs u.cells.zipIdx=(en xs.toList off u.cells.toList).toArray:=by
          apply Array.ext';rw[←S9,←Array.foldl_toList];simp
        rw[zc2];exact ab
      · cases hf
    · cases hf
theorem run_places(w:World): ∀l:List Field,(l.all fun f=>(P.info? f.type).isSome)=true→(l.mapM (fun f=>do
    let n ←sizeOf f.type
    pure (f.offset,n):Field→Sem (Nat × Nat))).run P w= .ok (l.map fun f=>(f.offset,((P.info? f.type).map (·.size)).getD 0)) w
  |[],_=>by simp
  |f::r,h=>by
    simp only[List.all_cons,Bool.and_eq_true]at h
    have aY:=run_places w r h.2
    cases hi:P.info? f.type with
    |none=>simp[hi]at h
    |some inf=>
      have ab:(sizeOf f.type).run P w= .ok inf.size w:=by simp[sizeOf,typeInfo,hi]
      simp only[List.mapM_cons,Sem.run_bind,ab,Result.andThen_ok,Sem.run_pure,aY];simp[hi]
theorem run_build{t:TypeId}{pl:Nat→Option (Nat × Nat)}(ar:places P t=some pl){zs:List Value}(aT:zeroCells P t=some zs){parts:Array (Nat × Value)}{ys:Array Value}(hf:Instr.fill pl zs.toArray parts.toList=some ys)(w:World):
    (Instr.build t parts).run P w= .ok (.agg ys) w:=by
  obtain⟨z,nJ,oC,_⟩:=yM aT w;unfold places at ar
  split at ar
  · rename_i fs hu
    split at ar
    · rename_i fi
      simp only[Option.some.injEq]at ar;subst ar
      have ab:=run_places w fs.toList fi
      have ae:(fs.mapM (fun f=>do
          let n ←sizeOf f.type
          pure (f.offset,n):Field→Sem (Nat × Nat))).run P w= .ok (fs.toList.map fun f=>(f.offset,((P.info? f.type).map (·.size)).getD 0)).toArray w:=by
        rw[Array.mapM_eq_mapM_toList];simp only[Sem.run_map,ab];rfl
      simp only[Instr.build,Sem.run_bind,nJ,Result.andThen_ok,run_underlying hu,ae,oC]
      have aw:(fun(x:Nat)=>(fs.toList.map fun f=>(f.offset,((P.info? f.type).map (·.size)).getD 0)).toArray[x]?)=(fun(i:Nat)=>(fs.toList.map fun f=>(f.offset,((P.info? f.type).map (·.size)).getD 0))[i]?):=by
        funext i;simp
      rw[aw,hf];rfl
    · cases ar
  · rename_i n e hu
    split at ar
    · rename_i inf hi
      simp only[Option.some.injEq]at ar;subst ar
      have ab:(sizeOf e).run P w= .ok inf.size w:=by simp[sizeOf,typeInfo,hi]
      simp only[Instr.build,Sem.run_bind,nJ,Result.andThen_ok,run_underlying hu,ab,oC,hf];rfl
    · cases ar
  · cases ar
theorem LN{w:World}{ro:Nat→Prop}{σ:Heap}{β:Nat→Value}{N:Nat}{zs:List Value}(fi:zs.all Value.oneCell'=true): ∀(j:Nat) (x:aC),(zs.map fun z=>aC.ad (.v z))[j]? =some x→bA w ro σ β N x (zs.toArray.getD j undef):=by
 intro j x aj
 rw[List.getElem?_map]at aj
 cases s0:zs[j]? with
 |none=>simp[s0]at aj
 |some y=>
  simp[s0]at aj;subst aj
  have:y.oneCell'=true:=by
   rw[List.all_eq_true]at fi;exact fi y (List.mem_of_getElem? s0)
  simpa[s0]using bA.ad (w:=w) (ro:=ro) (σ:=σ) (β:=β) (N:=N) _ _ (.v y this)
theorem LO{E:Entry}{a:Act}{w:World}{β:Nat→Value}{ro:Nat→Prop}(ah:dn E G s a w β ro){parts:Array (Nat × Operand)}{ps:List (Nat × aC)}(s8:parts.toList.map (fun p=>(p.1,aP G s p.2))=ps)
 (fi:ps.all (fun p=>(c1 p.2).all (eZ s.heap))=true):
 ps.map (·.1)=(parts.map fun p=>(p.1,a.eval p.2)).toList.map (·.1)∧
 ∀(j:Nat) (p:Nat × aC) (q:Nat × Value),ps[j]? =some p→(parts.map fun p=>(p.1,a.eval p.2)).toList[j]? =some q→bA w ro s.heap β s.next p.2 q.2∧(c1 p.2).all (eZ s.heap)=true:=by
 subst s8
 refine⟨by simp,fun j p q ab ae=>?_⟩
 have ar:(c1 p.2).all (eZ s.heap)=true:=by
  rw[List.all_eq_true]at fi;exact fi p (List.mem_of_getElem? ab)
 rw[List.getElem?_map]at ab
 rw[Array.toList_map,List.getElem?_map]at ae
 cases aj:parts.toList[j]? with
 |none=>simp[aj]at ab
 |some y=>
  simp[aj]at ab ae;subst ab ae;exact⟨ah.eval _,ar⟩
theorem Ta(t:TypeId)(parts:Array (Nat × Operand))(au:o.op= .build t parts){pl:Nat→Option (Nat × Nat)}(ar:places P t=some pl){zs:List Value}(aT:zeroCells P t=some zs)(qC:zs.all Value.oneCell'=true)
 {ps:List (Nat × aC)}(s8:parts.toList.map (fun p=>(p.1,aP G s p.2))=ps)(fi:ps.all (fun p=>(c1 p.2).all (eZ s.heap))=true){ds:List aC}(hf:kk pl (zs.map fun z=>.ad (.v z)) ps=some ds):
 cY P G o s (.agg ds):=
 fun _ a w β ro ah=>by
  obtain⟨ab,ae⟩:=LO ah s8 fi;obtain⟨ys,g1,g2,g3⟩:=F2 (place':=pl) (fun _ _ h=>h) ah.heap hf ab ae (xs:=zs.toArray) (by simp) (LN qC)
  refine⟨.agg ys,?_,.agg _ _ g2 g3⟩
  have ag:=run_build (P:=P) ar aT g1 w
  simp only[execOp,au,Sem.run_bind]
  erw [ag]
  rfl
end
end Go.aK
namespace Go.aK
open Go
mutual
def ey(id:Nat):aC→aC
 | .ad x=>.ad x
 | .agg cs=>.agg (eM id cs)
 | .tuple cs=>.tuple (eM id cs)
 | .ptr k off=>if k=id then .top else .ptr k off
 | .dN k off=>if k=id then .top else .dN k off
 | .dg k i off=>if k=id then .top else .dg k i off
 | .aq k=>if k=id then .top else .aq k
 | .fn f p q=>.fn f (eM id p) (eM id q)
 | .ref k=>if k=id then .top else .ref k
 | .top=>.top
def eM(id:Nat):List aC→List aC
 |[]=>[]
 |x::r=>ey id x::eM id r
end
def ef(id:Nat):Heap→Heap
 |[]=>[]
 |(k,.box t cs)::r=>if k=id then ef id r else(k,.box t (eM id cs))::ef id r
 |(k,.row z t n es)::r=>if k=id then ef id r else(k,.row z t n es)::ef id r
 |(k,.bI bH)::r=>if k=id then ef id r else(k,.bI bH)::ef id r
def e0(id:Nat):ec→ec
 | .box t cs=>.box t (eM id cs)
 | .row z t n es=>.row z t n es
 | .bI bH=>.bI bH
theorem ji(d:Nat): ∀(l:List aC),(eM d l).length=l.length
 |[]=>rfl
 |x::r=>by simp[eM,ji d r]
theorem iV(d:Nat): ∀{l:List aC} {j:Nat} {x:aC},(eM d l)[j]? =some x→∃y,l[j]? =some y∧x=ey d y
 |[],j,x,h=>by simp[eM]at h
 |y::r,j,x,h=>by
  cases j with
  |zero=>simp[eM]at h;exact⟨y,by simp,h.symm⟩
  |succ j=>simp[eM]at h;simpa using iV d h
theorem rN(id:Nat): ∀(σ:Heap) (k:Nat),aE (ef id σ) k=if k=id then none else(aE σ k).map (e0 id)
 |[],k=>by simp[ef,aE]
 |(j,.box t cs)::r,k=>by
  have aY:=rN id r k
  by_cases aj:j=id
  ·subst aj
   by_cases an:k=j
   ·subst an;simpa[ef]using aY
   ·simp[ef,aE,aY,an,Ne.symm an]
  ·by_cases an:j=k
   ·subst an;simp[ef,aE,aj,e0]
   ·simp[ef,aE,aj,an,aY]
 |(j,.row z t n es)::r,k=>by
  have aY:=rN id r k
  by_cases aj:j=id
  ·subst aj
   by_cases an:k=j
   ·subst an;simpa[ef]using aY
   ·simp[ef,aE,aY,an,Ne.symm an]
  ·by_cases an:j=k
   ·subst an;simp[ef,aE,aj,e0]
   ·simp[ef,aE,aj,an,aY]
 |(j,.bI bH)::r,k=>by
  have aY:=rN id r k
  by_cases aj:j=id
  ·subst aj
   by_cases an:k=j
   ·subst an;simpa[ef]using aY
   ·simp[ef,aE,aY,an,Ne.symm an]
  ·by_cases an:j=k
   ·subst an;simp[ef,aE,aj,e0]
   ·simp[ef,aE,aj,an,aY]
theorem kC(id:Nat)(o:ec):(e0 id o).live=o.live:=by cases o<;>rfl
section
variable {P:Program} {G:aR} {s:aQ} {E:Entry} {a:Act} {w w':World} {β:Nat→Value} {ro:Nat→Prop}
theorem dn.renew(h:dn E G s a w β ro)(id:Nat)(ag:s.base≤id)(bE:id<s.next){t0:TypeId}{n0:Nat}{B9:List (List aU)}(bf:aE s.heap id=some (.row false t0 n0 B9))(o:ec)(val:Value)
 (qv:w'.os=w.os)(qw:w'.tape=w.tape)(iI:w'.output=w.output)(bT:w.heap.size≤w'.heap.size)(hw: ∀b,b<w.heap.size→cz (β id)≠some b→w'.heap[b]? =w.heap[b]?)
 (ix: ∀b,cz val=some b→cz (β id)=some b∨w.heap.size≤b)(_hlive:o.live=true)
 (dS:m4 w' ro ((id,o)::ef id s.heap) (iH β id val) s.next id o):
 dn E G ⟨eM id s.db,(id,o)::ef id s.heap,s.next,s.base⟩ a w' (iH β id val) ro:=by
 have cr: ∀b,ro b→w'.heap[b]? =w.heap[b]? :=fun b ah=>hw b (h.heap.lt b ah) fun ag=>h.heap.e8 b ah ⟨id,_,bf,rfl,ag⟩
 have ai: ∀k,k≠id→aE ((id,o)::ef id s.heap) k=(aE s.heap k).map (e0 id):=fun k an=>by simp[aE,Ne.symm an,rN,an]
 have wJ:aE ((id,o)::ef id s.heap) id=some o:=by simp[aE]
 have key: ∀x c,bA w ro s.heap β s.next x c→bA w' ro ((id,o)::ef id s.heap) (iH β id val) s.next (ey id x) c:=by
  intro x c hx
  induction hx with
  |ad x c hx=>exact .ad x c (hx.keep cr fun _ h=>h)
  |agg cs c ao _ aY=>
   refine .agg _ c (by rw[ji];exact ao) fun j x aj=>?_
   obtain⟨y,aA,rfl⟩:=iV id aj;exact aY j y aA
  |tuple cs c ao _ aY=>
   refine .tuple _ c (by rw[ji];exact ao) fun j x aj=>?_
   obtain⟨y,aA,rfl⟩:=iV id aj;exact aY j y aA
  |ptr k off c av ar=>
   simp only[ey]
   split
   ·exact .top _
   ·rename_i an
    refine .ptr k off c av fun t cs bz=>?_
    rw[dB _ _ an];rw[ai k an]at bz
    cases ao:aE s.heap k with
    |none=>simp[ao]at bz
    |some p=>
     cases p with
     |box bh cs'=>exact ar bh cs' ao
     |row=>simp[ao,e0]at bz
     |bI=>simp[ao,e0]at bz
  |dN k off c av ar=>
   simp only[ey]
   split
   ·exact .top _
   ·rename_i an
    refine .dN k off c av fun t cs bz=>?_
    rw[dB _ _ an];rw[ai k an]at bz
    cases ao:aE s.heap k with
    |none=>simp[ao]at bz
    |some p=>
     cases p with
     |box bh cs'=>exact ar bh cs' ao
     |row=>simp[ao,e0]at bz
     |bI=>simp[ao,e0]at bz
  |dg k i off c av ar=>
   simp only[ey]
   split
   ·exact .top _
   ·rename_i an
    refine .dg k i off c av fun z t n es bz=>?_
    rw[dB _ _ an];rw[ai k an]at bz
    cases ao:aE s.heap k with
    |none=>simp[ao]at bz
    |some p=>
     cases p with
     |box bh cs'=>simp[ao,e0]at bz
     |bI=>simp[ao,e0]at bz
     |row hs bh bL eD=>
      simp only[ao,Option.map_some,e0,Option.some.injEq,ec.row.injEq]at bz;obtain⟨rfl,rfl,rfl,rfl⟩:=bz;exact ar _ _ _ _ ao
  |aq k c av ar=>
   simp only[ey]
   split
   ·exact .top _
   ·rename_i an
    refine .aq k c av fun z t n es bz=>?_
    rw[dB _ _ an];rw[ai k an]at bz
    cases ao:aE s.heap k with
    |none=>simp[ao]at bz
    |some p=>
     cases p with
     |box bh cs'=>simp[ao,e0]at bz
     |bI=>simp[ao,e0]at bz
     |row hs bh bL eD=>exact ar _ _ _ _ ao
  |fn f p q c d ab ae _ _ hv hy=>
   refine .fn f _ _ c d (by rw[ji];exact ab) (by rw[ji];exact ae) (fun j x aj=>?_) (fun j x aj=>?_)
   ·obtain⟨y,aA,rfl⟩:=iV id aj
    exact hv j y aA
   ·obtain⟨y,aA,rfl⟩:=iV id aj
    exact hy j y aA
  |ref k c av ar=>
   simp only[ey]
   split
   ·exact .top _
   ·rename_i an
    refine .ref k c av fun bH bz=>?_
    rw[dB _ _ an];rw[ai k an]at bz
    cases ao:aE s.heap k with
    |none=>simp[ao]at bz
    |some p=>
     cases p with
     |box=>simp[ao,e0]at bz
     |row=>simp[ao,e0]at bz
     |bI km=>exact ar km ao
  |top c=>exact .top c
 have ea: ∀k p,k≠id→aE ((id,o)::ef id s.heap) k=some p→∃q,aE s.heap k=some q∧p=e0 id q:=by
  intro k p an bz;rw[ai k an]at bz
  cases ao:aE s.heap k with
  |none=>simp[ao]at bz
  |some q=>simp[ao]at bz;exact⟨q,rfl,bz.symm⟩
 refine⟨h.defers,by simpa[ji]using h.size,fun i x hx=>?_,⟨fun k p an=>?_,fun k a8 p gW b an fk ar hU bc eH=>?_,fun b ah=>?_,fun b ah=>Nat.lt_of_lt_of_le (h.heap.lt b ah) bT⟩,
  h.hL.keep cr fun _ h=>h,?_,h.base⟩
 ·obtain⟨y,aA,rfl⟩:=iV id hx
  exact key _ _ (h.slot i y aA)
 ·by_cases bF:k=id
  ·subst bF
   rw[wJ]at an;simp only[Option.some.injEq]at an;subst an;exact dS
  ·obtain⟨q,aG,rfl⟩:=ea k p bF an
   have fM:=h.heap.dq k q aG
   have bW:q.live=true→∀b,cz (β k)=some b→w'.heap[b]? =w.heap[b]? :=fun av b bc=>
    hw b (fM.iG av bc) fun k2=>bF (h.heap.inj k id q _ b aG bf av rfl bc k2)
   cases fM with
   |box t cs b arr ab ae aw aM=>
    refine .box t _ b arr (by rw[dB _ _ bF];exact ab) ((bW rfl b (by rw[ab];rfl)).trans ae) (by rw[ji];exact aw) fun j x aj=>?_
    obtain⟨y,aA,rfl⟩:=iV id aj;exact key _ _ (aM j y aA)
   |row t n es xs ab ae aw=>exact .row t n es xs (by rw[dB _ _ bF];exact ab.keep (fun b ag=>bW rfl b ag) bT) ae fun j x aj=>(aw j x aj).keep cr fun _ h=>h
   |fW t n es ab=>exact .fW t n es (by rw[dB _ _ bF];exact ab.keep cr fun _ h=>h)
   |bI bH b o ab ae aw=>exact .bI bH b o (by rw[dB _ _ bF];exact ab) ((bW rfl b ab).trans ae) (by rw[dB _ _ bF];exact bH.mono _ _ _ _ (fun x c h=>h.keep cr fun _ h=>h) aw)
 ·by_cases bF:k=id
  ·by_cases hV:a8=id
   ·rw[bF,hV]
   ·subst bF
    rw[eT]at bc;rw[dB _ _ hV]at eH;obtain⟨q,aG,rfl⟩:=ea a8 gW hV fk;rw[kC]at hU
    have ae:=(h.heap.dq a8 q aG).iG hU eH
    rcases ix b bc with ab|ab
    ·exact(h.heap.inj a8 k q _ b aG bf hU rfl eH ab).symm
    ·omega
  ·obtain⟨q,aG,rfl⟩:=ea k p bF an
   rw[kC]at ar;rw[dB _ _ bF]at bc
   by_cases hV:a8=id
   ·subst hV
    rw[eT]at eH
    have ae:=(h.heap.dq k q aG).iG ar bc
    rcases ix b eH with ab|ab
    ·exact h.heap.inj k a8 q _ b aG bf ar rfl bc ab
    ·omega
   ·obtain⟨iF,wK,rfl⟩:=ea a8 gW hV fk
    rw[kC]at hU;rw[dB _ _ hV]at eH;exact h.heap.inj k a8 q iF b aG wK ar hU bc eH
 ·rintro⟨k,p,an,ar,bc⟩
  by_cases bF:k=id
  ·subst bF
   rw[eT]at bc
   rcases ix b bc with ab|ab
   ·exact h.heap.e8 b ah ⟨k,_,bf,rfl,ab⟩
   ·have:=h.heap.lt b ah;omega
  ·obtain⟨q,aG,rfl⟩:=ea k p bF an
   rw[kC]at ar;rw[dB _ _ bF]at bc;exact h.heap.e8 b ah ⟨k,q,aG,ar,bc⟩
 ·have t:=h.trans
  refine⟨qv.trans t.os,qw.trans t.tape,iI.trans t.output,Nat.le_trans t.size bT,fun b j8 gQ=>?_,t.hz,t.gA,?_,fun k an p bz=>?_,fun k p bz=>?_,t.le⟩
  ·by_cases k2:cz (β id)=some b
   ·rcases t.fU b ⟨id,_,bf,rfl,k2⟩with hc|hc
    ·exact absurd hc gQ
    ·omega
   ·rw[hw b (Nat.lt_of_lt_of_le j8 t.size) k2]
    exact t.frame b j8 gQ
  ·rintro b ⟨k,p,an,ar,bc⟩
   by_cases bF:k=id
   ·subst bF
    rw[eT]at bc
    rcases ix b bc with ab|ab
    ·exact t.fU b ⟨k,_,bf,rfl,ab⟩
    ·exact .inr (Nat.le_trans t.size ab)
   ·obtain⟨q,aG,rfl⟩:=ea k p bF an
    rw[kC]at ar;rw[dB _ _ bF]at bc;exact t.fU b ⟨k,q,aG,ar,bc⟩
  ·have bF:k≠id:=by have:=h.base;omega
   obtain⟨q,aG,rfl⟩:=ea k p bF bz;rw[dB _ _ bF];exact t.ea k an q aG
  ·by_cases bF:k=id
   ·subst bF;exact bE
   ·obtain⟨q,aG,rfl⟩:=ea k p bF bz
    exact t.new k q aG
def chunk{α:Type}(n:Nat):Nat→List α→List (List α)
 |0,_=>[]
 |k+1,l=>l.take n::chunk n k (l.drop n)
theorem Ca{α:Type}(n:Nat): ∀(k:Nat) (l:List α),(chunk n k l).length=k
 |0,_=>rfl
 |k+1,l=>by simp[chunk,Ca n k]
theorem Tb{α:Type}(n:Nat): ∀(k:Nat) (l:List α),l.length=k*n→∀e∈chunk n k l,e.length=n
 |0,_,_,e,he=>by simp[chunk]at he
 |k+1,l,h,e,he=>by
  rw[Nat.succ_mul]at h;simp only[chunk,List.mem_cons]at he
  rcases he with rfl|he
  ·simp;omega
  ·exact Tb n k (l.drop n) (by simp;omega) e he
theorem Tc{α:Type}(n:Nat): ∀(k:Nat) (l:List α),l.length=k*n→(chunk n k l).flatten=l
 |0,l,h=>by
  have:l=[]:=List.eq_nil_of_length_eq_zero (by simpa using h)
  simp[chunk,this]
 |k+1,l,h=>by
  rw[Nat.succ_mul]at h;simp only[chunk,List.flatten_cons];rw[Tc n k (l.drop n) (by simp;omega),List.take_append_drop]
theorem kV.EK{w:World}{t:TypeId}{n:Nat}{v:Value}{len:Nat}{xs:List Value}(h:w.ownsRow 0 t n v len xs):kV w t n v len xs:=by
 obtain⟨av,ah⟩:=h
 refine⟨av,?_⟩
 rcases ah with⟨ab,ae⟩|⟨g,cap,cur,az,_,ai,hle,jN,fj,aJ⟩
 ·exact .inl ⟨⟨none,ab,fun _ h=>(by cases h)⟩,ae⟩
 ·by_cases hc:cap=0
  ·subst hc
   have:len=0:=by omega
   subst this;exact .inl ⟨⟨_,az,fun a a6=>(by cases a6;exact(Array.getElem?_eq_some_iff.1 ai).1)⟩,rfl⟩
  ·exact .inr ⟨g,cap,cur,az,by omega,ai,hle,jN,fj,aJ⟩
def uu(P:Program)(G:aR)(o:Oper)(s:aQ)(t:TypeId)(n:Nat)(es:List (List aU)):Prop:=
 (∀e∈es,e.length=n)∧∀E a w β ro,dn E G s a w β ro→∃v xs w',(execOp a.eval o).run P w= .ok (.value v) w'∧w'.ownsRow 0 t n v es.length xs∧w.grownBy w' none∧(∀b,cz v=some b→w.heap.size≤b)∧
  ∀j x,es.flatten[j]? =some x→de w ro x (xs.getD j undef)
theorem ep.newRow{o:Oper}{t:TypeId}{n:Nat}{es:List (List aU)}(ag:s.base≤s.next)(aV:uu P G o s t n es):
 ep P G o s ({s with heap:=(s.next,.row false t n es)::s.heap,next:=s.next+1}.put o.dst (.aq s.next)):=by
 obtain⟨hn,h⟩:=aV
 intro E a w ⟨β,ro,ah⟩ K Q hK
 obtain⟨v,xs,w',cy,h6,dG,ix,fx⟩:=h E a w β ro ah
 unfold Oper.wp
 rw[cy]
 have kr:aE s.heap s.next=none:=by
  cases ai:aE s.heap s.next with
  |none=>rfl
  |some p=>have:=ah.trans.new _ _ ai;omega
 have hw: ∀b,b<w.heap.size→w'.heap[b]? =w.heap[b]? :=fun b ag=>dG.block b ag (by simp)
 have cr: ∀b,ro b→w'.heap[b]? =w.heap[b]? :=fun b ag=>hw b (ah.heap.lt b ag)
 have gh:dn E G {s with heap:=(s.next,.row false t n es)::s.heap,next:=s.next+1} a w' (iH β s.next v) ro:=by
  refine ah.new s.next kr ag (Nat.le_refl _) _ v dG.os dG.tape dG.output dG.size hw ix rfl ?_
  exact .row t n es xs (by rw[eT];exact .EK h6) hn fun j x aj=>(fx j x aj).keep cr fun _ h=>h
 refine hK _ _ ⟨_,ro,gh.put o.dst _ _ ?_⟩
 exact .aq _ _ (Nat.lt_succ_self _) fun z bh bL eD _=>(eT _ _ _).symm
theorem zc3{o:Oper}(t:TypeId)(len:Nat)(parts:Array (Nat × Operand))(au:o.op= .buildSlice t len parts){e n:Nat}(hu:P.underlying t=some (.slice e))(bT:(P.info? e).map (·.size)=some n)
 {zs:List Value}(aT:zeroCells P e=some zs)(qC:zs.all Value.oneCell'=true)(k4:zs.length=n)(hlen:0<len*n∧len*n≤16777216)
 {ps:List (Nat × aC)}(s8:parts.toList.map (fun p=>(p.1,aP G s p.2))=ps)(fi:ps.all (fun p=>(c1 p.2).all (eZ s.heap))=true)
 {ds:List aC}(hf:kk (fun i=>some (i*n,n)) ((List.replicate len (zs.map fun z=>aC.ad (.v z))).flatten) ps=some ds){rs:List aU}(hl:jb ds=some rs):
 uu P G o s e n (chunk n len rs):=by
 have oG:ds.length=len*n:=by
  have: ∀(ps:List (Nat × aC)) (cs ds:List aC),kk (fun i=>some (i*n,n)) cs ps=some ds→ds.length=cs.length:=by
   intro ps
   induction ps with
   |nil=>intro cs ds h;simp[kk]at h;rw[h]
   |cons p r aY=>
    intro cs ds h;obtain⟨i,v⟩:=p;simp only[kk]at h
    split at h
    ·rename_i hc
     rw[aY _ _ h,po _ _ _ (by omega)]
    ·cases h
  rw[this ps _ _ hf,jh (n:=n) (fun e he=>by rw[List.mem_replicate]at he;rw[he.2];simpa using k4)]
  simp
 have Td:rs.length=len*n:=by rw[←oG,xS hl];simp
 refine⟨Tb n len rs Td,fun E a w β ro ah=>?_⟩
 obtain⟨ab,ae⟩:=LO ah s8 fi
 obtain⟨z,nJ,oC,_⟩:=yM aT w
 have fx:(List.replicate len (zs.map fun z=>aC.ad (.v z))).flatten.length=len*n:=by
  rw[jh (n:=n) (fun e he=>by rw[List.mem_replicate]at he;rw[he.2];simpa using k4)];simp
 have zc4:zs.toArray.size=n:=by simpa using k4
 have px:0<n:=by
  rcases Nat.eq_zero_or_pos n with h|h
  ·rw[h]at hlen;simp at hlen
  ·exact h
 obtain⟨ys,g1,g2,g3⟩:=F2 (place':=fun i=>some (i*n,n)) (fun _ _ h=>h) ah.heap hf ab ae (xs:=(Array.range (len*n)).map fun x=>zs.toArray[x%zs.toArray.size]!) (by rw[fx];simp) (fun j x aj=>by
  have dj:j<len*n:=by rw[←fx];exact(List.getElem?_eq_some_iff.1 aj).1
  have hm:j=(j/ n)*n+j%n:=by rw[Nat.mul_comm];exact(Nat.div_add_mod j n).symm
  have lX:j%n<n:=Nat.mod_lt _ px
  have lY:j/ n<len:=by rw[Nat.div_lt_iff_lt_mul px];exact dj
  rw[hm,pk (n:=n) (fun e he=>by rw[List.mem_replicate]at he;rw[he.2];simpa using k4) (i:=j/ n) (e:=zs.map fun z=>aC.ad (.v z)) (by simp[lY]) (j%n) lX]at aj
  have:=LN (w:=w) (ro:=ro) (σ:=s.heap) (β:=β) (N:=s.next) qC (j%n) x aj
  have aD:(Array.map (fun x=>zs.toArray[x%zs.toArray.size]!) (Array.range (len*n))).getD j undef=zs.toArray.getD (j%n) undef:=by
   have aw:j%n<zs.length:=by omega
   simp[dj,k4,List.getElem?_eq_getElem aw]
  rw[aD]
  exact this)
 have nI:ys.toList.length=(chunk n len rs).length*n:=by rw[Ca];simpa[oG]using g2
 refine⟨.slice (some ⟨w.heap.size,0,none⟩) len len,ys.toList,w.alloc (.cells ys e),?_,?_,World.grownBy_alloc w _ none,fun b bc=>?_,fun j x aj=>?_⟩
 ·have vW:(sizeOf e).run P w= .ok n w:=by
   cases hi:P.info? e with
   |none=>simp[hi]at bT
   |some i=>simp[hi]at bT;simp[sizeOf,typeInfo,hi,bT]
  have bW: ¬len*n>2^24:=by omega
  have kD: ¬len*n=0:=by omega
  simp only[execOp,au,Sem.run_bind,Instr.buildSlice,run_underlying hu,Result.andThen_ok,vW,if_neg bW,if_neg kD,nJ,Sem.run_pure,oC]
  erw [g1]
  simp[newRow]
 ·rw[Ca]
  exact World.ownsRow_lit w ys len (Nat.zero_le _) (by simp only[maxLen];have:=Nat.le_mul_of_pos_right len px;omega) (by simpa[oG]using g2)
 ·simp only[cz]at bc
  split at bc
  ·cases bc
  ·simp at bc;omega
 ·rw[Tc n len rs Td]at aj
  have aw:=g3 j (.ad x) (by rw[xS hl];simp[aj])
  cases aw with
  |ad _ _ aw=>
   have:ys.toList.getD j undef=ys.getD j undef:=by simp[List.getD,Array.getD_eq_getD_getElem?]
   rw[this];exact aw
end
end Go.aK
