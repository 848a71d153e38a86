/- The AV calculus, part G: code, loops, the beginning and the end of a call. Conditions: none. -/
import Derived.Test.YtmkpmgfieagphaaGreatDoorJSMf
namespace Go.aM
open Go
def lift(E:Entry)(G:a8)(Q:Exit→aP→Prop):Exit→Act→World→Prop:=fun e a w=>∃s,Q e s∧Rel E G s a w
def b2(P:Program)(G:a8)(c:Code)(Q:Exit→aP→Prop)(s:aP):Prop:=∀E a w,Rel E G s a w→c.wp P (lift E G Q) a w
def cv(P:Program)(G:a8)(ops:Array Oper)(Q:Exit→aP→Prop)(l:List Oper)(s:aP):Prop:=∀E a w,Rel E G s a w→wpList P ops (lift E G Q) l a w
section
variable {P:Program} {G:a8} {Q:Exit→aP→Prop} {s:aP}
theorem b2.region{id:Nat}{l:List Oper}(h:cv P G l.toArray Q l s):b2 P G (.region id l.toArray false) Q s:=fun E a w af=>wp_region_lit (h E a w af)
theorem cv.nil{ops:Array Oper}(h:Q .normal s):cv P G ops Q [] s:=fun _ _ _ af=>wpList_nil ⟨s,h,af⟩
theorem cv.cons{ops:Array Oper}{o:Oper}{rest:List Oper}{bq:aP}(ah:o.guard=none)(h:dQ P G o s bq)(k:cv P G ops Q rest bq):cv P G ops Q (o::rest) s:=
 fun E a w af=>wpList_plain ah fun _ hK=>h E a w af _ _ fun bc w' dW=>hK bc w' (k E bc w' dW)
def mn(ops:Array Oper)(j:Nat):Option Nat:=(ops[j]?).bind (·.dst)
theorem JG{ops:Array Oper}{E:Entry}{a:Act}{w:World}(af:Rel E G s a w){j d:Nat}(ag:mn ops j=some d){b:Bool}(hd:s.cQ[d]? =some (.av (.v (.bool b)))):yielded ops a.tmps j=some b:=by
 obtain⟨β,ro,h⟩:=af
 have ai:=bs.val (h.slot d _ hd)
 have bI:d<a.tmps.size:=by rw[h.size];exact(List.getElem?_eq_some_iff.1 hd).1
 unfold mn at ag
 unfold yielded
 rw[ag]
 simp only[Option.bind_some]
 simp[bI]at ai
 simp[bI,ai]
theorem QV{ops:Array Oper}{E:Entry}{a:Act}{w:World}(af:Rel E G s a w){j d:Nat}(ag:mn ops j=some d){cs:List aD}(hd:s.cQ[d]? =some (.tuple cs)):yielded ops a.tmps j=none:=by
 obtain⟨β,ro,h⟩:=af
 have ai:=h.slot d _ hd
 have bI:d<a.tmps.size:=by rw[h.size];exact(List.getElem?_eq_some_iff.1 hd).1
 unfold mn at ag
 unfold yielded
 rw[ag]
 simp only[Option.bind_some]
 simp[bI]at ai
 generalize a.tmps[d]=c at ai
 have aJ:a.tmps[d]? =some a.tmps[d]:=by simp[bI]
 have ai:=h.slot d _ hd
 simp[bI]at ai
 cases eX:a.tmps[d]with
 |tuple x=>simp[aJ,eX]
 |_=>rw[eX]at ai;cases ai
theorem cv.guarded{ops:Array Oper}{o:Oper}{rest:List Oper}{bq:aP}{j d:Nat}{b:Bool}(ah:o.guard=some (j,b))(ag:mn ops j=some d)(hd:s.cQ[d]? =some (.av (.v (.bool b))))
 (h:dQ P G o s bq)(k:cv P G ops Q rest bq):cv P G ops Q (o::rest) s:=
 fun E a w af=>wpList_step fun _ hK=>by
  have ax:=JG af ag hd
  simp only[Region.wanted,ah,ax,beq_self_eq_true,if_true];exact h E a w af _ _ fun bc w' dW=>hK bc w' (k E bc w' dW)
theorem Rel.C1{E:Entry}{a:Act}{w:World}(af:Rel E G s a w)(dst:Option Nat):Rel E G (s.put dst (.tuple [])) (a.put dst undef) w:=by
 obtain⟨β,ro,h⟩:=af
 exact⟨β,ro,h.put dst _ _ (.tuple _ _ rfl (by simp))⟩
theorem cv.zce{ops:Array Oper}{o:Oper}{rest:List Oper}{j d:Nat}{b:Bool}(ah:o.guard=some (j,b))(ag:mn ops j=some d)(hd:s.cQ[d]? =some (.av (.v (.bool (!b)))))
 (k:cv P G ops Q rest (s.put o.dst (.tuple []))):cv P G ops Q (o::rest) s:=
 fun E a w af=>by
  have ax:=JG af ag hd
  refine wpList_skip ?_ (k E _ w (af.C1 o.dst))
  simp only[Region.wanted,ah,ax]
  cases b<;>rfl
theorem cv.zcf{ops:Array Oper}{o:Oper}{rest:List Oper}{j d:Nat}{b:Bool}(ah:o.guard=some (j,b))(ag:mn ops j=some d){cs:List aD}(hd:s.cQ[d]? =some (.tuple cs))
 (k:cv P G ops Q rest (s.put o.dst (.tuple []))):cv P G ops Q (o::rest) s:=
 fun E a w af=>by
  have ax:=QV af ag hd
  refine wpList_skip ?_ (k E _ w (af.C1 o.dst))
  simp only[Region.wanted,ah,ax]
  cases b<;>rfl
def zcg(P:Program)(G:a8)(c:Code)(Q:Exit→aP→Prop):Exit→aP→Prop
 | .normal,s=>b2 P G c Q s
 |e,s=>Q e s
theorem b2.seq{x y:Code}(h:b2 P G x (zcg P G y Q) s):b2 P G (.seq x y) Q s:=fun E a w af=>by
 refine wp_seq (wp_mono (h E a w af) fun e bc w' aJ=>?_)
 obtain⟨bq,aa,ae⟩:=aJ
 cases e with
 |normal=>exact aa E bc w' ae
 |_=>exact⟨bq,aa,ae⟩
theorem b2.cond{x:Operand}{c d:Code}{b:Bool}(hx:aL G s x= .av (.v (.bool b)))(aI:b=true→b2 P G c Q s)(hf:b=false→b2 P G d Q s):b2 P G (.cond x c d) Q s:=fun E a w af=>by
 obtain⟨β,ro,h⟩:=af
 exact wp_cond_split (h.ec hx) (fun e=>aI e E a w ⟨β,ro,h⟩) (fun e=>hf e E a w ⟨β,ro,h⟩)
theorem b2.QW{x:Operand}{c d:Code}(hx:aL G s x= .av (.v (.bool true)))(aI:b2 P G c Q s):b2 P G (.cond x c d) Q s:=b2.cond hx (fun _=>aI) (fun h=>by cases h)
theorem b2.QX{x:Operand}{c d:Code}(hx:aL G s x= .av (.v (.bool false)))(hf:b2 P G d Q s):b2 P G (.cond x c d) Q s:=b2.cond hx (fun h=>by cases h) (fun _=>hf)
theorem b2.skip(h:Q .normal s):b2 P G .skip Q s:=fun _ _ _ af=>wp_skip ⟨s,h,af⟩
theorem b2.ret(h:Q .ret s):b2 P G .ret Q s:=fun _ _ _ af=>wp_ret ⟨s,h,af⟩
theorem b2.exit{id:Nat}(h:Q (.exit id) s):b2 P G (.exit id) Q s:=fun _ _ _ af=>wp_exit ⟨s,h,af⟩
theorem b2.mono{c:Code}{Q':Exit→aP→Prop}(h:b2 P G c Q s)(aJ: ∀e s,Q e s→Q' e s):b2 P G c Q' s:=fun E a w af=>
 wp_mono (h E a w af) fun e _ _ ⟨bq,aa,ae⟩=>⟨bq,aJ e bq aa,ae⟩
def QY(id:Nat)(Q:Exit→aP→Prop):Exit→aP→Prop
 | .exit gm,s=>bif Nat.beq gm id then Q .normal s else Q (.exit gm) s
 |e,s=>Q e s
theorem b2.block{id:Nat}{c:Code}(h:b2 P G c (QY id Q) s):b2 P G (.block id c) Q s:=fun E a w af=>by
 refine wp_block (wp_mono (h E a w af) fun e bc w' aJ=>?_)
 obtain⟨bq,aa,ae⟩:=aJ
 cases e with
 |exit gm=>
  simp only[QY,Exit.inBlock]at*
  split
  ·rename_i he
   have ad:Nat.beq gm id=true:=by simpa using he
   rw[ad]at aa;exact⟨bq,aa,ae⟩
  ·rename_i he
   have ad:Nat.beq gm id=false:=by
    cases aJ:Nat.beq gm id with
    |false=>rfl
    |true=>exact absurd (Nat.eq_of_beq_eq_true aJ) he
   rw[ad]at aa;exact⟨bq,aa,ae⟩
 |_=>exact⟨bq,aa,ae⟩
def cm(s bq:aP):Prop:=∀E (G:a8) a w,Rel E G s a w→Rel E G bq a w
theorem cm.refl(s:aP):cm s s:=fun _ _ _ _ h=>h
theorem cm.trans{s bq QZ:aP}(h:cm s bq)(k:cm bq QZ):cm s QZ:=fun E G a w af=>k E G a w (h E G a w af)
theorem b2.le{c:Code}{bq:aP}(h:cm s bq)(k:b2 P G c Q bq):b2 P G c Q s:=fun E a w af=>k E a w (h E G a w af)
theorem cv.le{ops:Array Oper}{l:List Oper}{bq:aP}(h:cm s bq)(k:cv P G ops Q l bq):cv P G ops Q l s:=fun E a w af=>k E a w (h E G a w af)
theorem b2.loop{ι:Type}(st:ι→aP)(inv:ι→Prop)(mu:ι→Nat){c:Code}(x:ι)(aH:cm s (st x))(hi:inv x)
    (round: ∀x,inv x→b2 P G c (fun e bq=>match e with
      | .normal=>∃y,inv y∧mu y<mu x∧cm bq (st y)
      |e=>Q e bq) (st x)):b2 P G (.loop c) Q s:=fun E a w af=>by
  have key: ∀n x,mu x=n→inv x→∀a w,Rel E G (st x) a w→(Code.loop c).wp P (lift E G Q) a w:=by
    intro n x hn hx a w af;refine wp_loop (fun a w=>∃y,inv y∧Rel E G (st y) a w) (fun a w=>Classical.epsilon fun m=>∃y,inv y∧Rel E G (st y) a w∧mu y=m∧∀z,inv z→Rel E G (st z) a w→m≤mu z) ⟨x,hx,af⟩ ?_
    intro a w ⟨c8,wE,zch⟩
    have hex: ∃m,∃y,inv y∧Rel E G (st y) a w∧mu y=m∧∀z,inv z→Rel E G (st z) a w→m≤mu z:=by
      have: ∀k y,mu y=k→inv y→Rel E G (st y) a w→∃m,∃y,inv y∧Rel E G (st y) a w∧mu y=m∧∀z,inv z→Rel E G (st z) a w→m≤mu z:=by
        intro k
        induction k using Nat.strongRecOn with
        |_ k a1=>
          intro y aj ax zt
          by_cases rn: ∀z,inv z→Rel E G (st z) a w→mu y≤mu z
          · exact⟨mu y,y,ax,zt,rfl,rn⟩
          · simp only[Classical.not_forall]at rn
            obtain⟨z,aQ,kb,bI⟩:=rn;exact a1 (mu z) (by omega) z rfl aQ kb
      exact this _ c8 rfl wE zch
    obtain⟨y,ax,zt,zci,_⟩:=Classical.epsilon_spec hex;refine wp_mono (round y ax E a w zt) fun e bc w' aJ=>?_
    obtain⟨bq,aa,ae⟩:=aJ
    cases e with
    |normal=>
      obtain⟨z,aQ,bI,hle⟩:=aa
      have kb:=hle E G bc w' ae
      refine⟨⟨z,aQ,kb⟩,?_⟩
      have zcj: ∃m,∃y,inv y∧Rel E G (st y) bc w'∧mu y=m∧∀z,inv z→Rel E G (st z) bc w'→m≤mu z:=by
        have: ∀k y,mu y=k→inv y→Rel E G (st y) bc w'→∃m,∃y,inv y∧Rel E G (st y) bc w'∧mu y=m∧∀z,inv z→Rel E G (st z) bc w'→m≤mu z:=by
          intro k
          induction k using Nat.strongRecOn with
          |_ k a1=>
            intro y aj ax zt
            by_cases rn: ∀z,inv z→Rel E G (st z) bc w'→mu y≤mu z
            · exact⟨mu y,y,ax,zt,rfl,rn⟩
            · simp only[Classical.not_forall]at rn
              obtain⟨z,aQ,kb,bI⟩:=rn;exact a1 (mu z) (by omega) z rfl aQ kb
        exact this _ z rfl aQ kb
      obtain⟨_,_,_,_,rn⟩:=Classical.epsilon_spec zcj
      have au:=rn z aQ kb
      rw[←zci];exact Nat.lt_of_le_of_lt au bI
    |_=>exact⟨bq,aa,ae⟩
  exact key _ x rfl hi a w (aH E G a w af)
end
def dF(P:Program)(G:a8)(f:FuncId)(args:List aD)(σ:Heap)(n:Nat)(Q:aD→Heap→Prop):Prop:=
 ∀w β ro (ea:Array Value),ea.size=args.length→(∀i x,args[i]? =some x→bs w ro σ β n x (ea.getD i undef))→hb w ro σ β n→sf w ro G→(∀id o,aE σ id=some o→id<n)→
  Calls P f ea w fun e w'=>∃v r eV dL ro' cJ,e= .returned v∧Q r eV∧bs w' ro' eV dL cJ r v∧hb w' ro' eV dL cJ∧Trans ⟨w,ro,σ,β,n⟩ w' ro' eV dL cJ
def m7(P:Program)(s:aP):List ResultVar→Option (List aD)
 |[]=>some []
 | .tmp t::r=>match m7 P s r with
  |some l=>some (s.cQ.getD t .top::l)
  |none=>none
 | .cell p t::r=>match m7 P s r,fl s.heap (s.cQ.getD p .top)with
  |some l,some cs=>match mi P t with
   |some n=>if n≤cs.length∧0<n then some (.agg (cs.take n)::l)else none
   |none=>if scalar P t then match cs with
    |y::_=>some (y::l)
    |[]=>none
    else none
  |_,_=>none
def zu(P:Program)(fn:Func)(s:aP):Option aD:=
 match m7 P s fn.results.toList with
 |some [x]=>some x
 |some l=>some (.tuple l)
 |none=>none
def zck(P:Program)(fn:Func)(Q:aD→Heap→Prop):Exit→aP→Prop:=fun e s=>
 (e= .normal∨e= .ret)∧∃r eV,zu P fn s=some r∧(∀id o,aE eV id=some o→aE s.heap id=some o)∧Q r eV
theorem hb.sub{w:World}{ro:Nat→Prop}{σ eV:Heap}{β:Nat→Value}{N:Nat}(h:hb w ro σ β N)(ai: ∀id o,aE eV id=some o→aE σ id=some o):hb w ro eV β N:=by
 refine⟨fun id o ah=>(h.c7 id o (ai id o ah)).keep (fun _ _=>rfl) (fun _ h=>h) (Nat.le_refl _) (Nat.le_refl _) rfl (fun _ _ _=>rfl) (fun id t cs ah=>⟨rfl,t,cs,ai id _ ah⟩) (fun id z t n es ah=>⟨rfl,z,t,es,ai id _ ah⟩) (fun id bN ah=>⟨rfl,bN,ai id _ ah⟩),
  fun id gm o cz b aa ae=>h.inj id gm o cz b (ai id o aa) (ai gm cz ae),fun b ad ⟨id,o,ah,ar,bg⟩=>h.ff b ad ⟨id,o,ai id o ah,ar,bg⟩,h.lt⟩
theorem bs.sub{w:World}{ro:Nat→Prop}{σ eV:Heap}{β:Nat→Value}{N:Nat}{x:aD}{c:Value}(h:bs w ro σ β N x c)(ai: ∀id o,aE eV id=some o→aE σ id=some o):bs w ro eV β N x c:=
 h.keep (fun _ _=>rfl) (fun _ h=>h) (Nat.le_refl _) (fun id t cs ah=>⟨rfl,t,cs,ai id _ ah⟩) (fun id z t _ es ah=>⟨rfl,z,t,es,ai id _ ah⟩) (fun id bN ah=>⟨rfl,bN,ai id _ ah⟩)
theorem Trans.sub{E:Entry}{w:World}{ro:Nat→Prop}{σ eV:Heap}{β:Nat→Value}{n:Nat}(h:Trans E w ro σ β n)(ai: ∀id o,aE eV id=some o→aE σ id=some o):Trans E w ro eV β n:=
 ⟨h.os,h.tape,h.output,h.size,h.frame,h.jk,h.j7,fun b ⟨id,o,ah,ar,bg⟩=>h.hg b ⟨id,o,ai id o ah,ar,bg⟩,fun id hi o ah=>h.dK id hi o (ai id o ah),fun id o ah=>h.new id o (ai id o ah),h.le⟩
section
variable {P:Program} {G:a8}
def uD(tmps:Array Value):ResultVar→Sem Value
 | .tmp t=>pure (tmps.getD t undef)
 | .cell p t=>do
  let b ←asAddr (tmps.getD p undef)
  loadVar t b
theorem zcl(fn:Func)(tmps:Array Value):results fn tmps=(do
    let vs ←fn.results.mapM (uD tmps)
    pure (if h:vs.size=1 then vs[0]else .tuple vs)):=by
  unfold results
  have:(fun x=>match x with
      |ResultVar.tmp t=>(pure (tmps.getD t undef):Sem Value)
      |ResultVar.cell p t=>do
        let b ←asAddr (tmps.getD p undef)
        loadVar t b)=uD tmps:=by
    funext x
    cases x<;>rfl
  rw[←this];rfl
theorem JH{E:Entry}{s:aP}{a:Act}{w:World}{β:Nat→Value}{ro:Nat→Prop}(h:c5 E G s a w β ro): ∀{rs:List ResultVar} {l:List aD},m7 P s rs=some l→
 ∃vs:List Value,(rs.mapM (uD a.tmps)).run P w= .ok vs w∧vs.length=l.length∧∀j x,l[j]? =some x→bs w ro s.heap β s.next x (vs.getD j undef)
 |[],l,ar=>by
  simp[m7]at ar;subst ar;exact⟨[],by simp,rfl,by simp⟩
 | .tmp t::r,l,ar=>by
  simp only[m7]at ar
  cases af:m7 P s r with
  |none=>simp[af]at ar
  |some h2=>
   simp only[af,Option.some.injEq]at ar;subst ar;obtain⟨vs,aa,ae,au⟩:=JH h af;refine⟨a.tmps.getD t undef::vs,by simp only[List.mapM_cons,Sem.run_bind,uD,Sem.run_pure,Result.andThen_ok,aa],by simp[ae],fun j x ag=>?_⟩
   cases j with
   |zero=>
    simp at ag;subst ag;exact h.eval (.tmp t)
   |succ j=>exact au j x ag
 | .cell p t::r,l,ar=>by
  simp only[m7]at ar
  cases af:m7 P s r with
  |none=>simp[af]at ar
  |some h2=>
   cases hc:fl s.heap (s.cQ.getD p .top)with
   |none=>rw[af,hc]at ar;cases ar
   |some cs=>
    rw[af,hc]at ar;simp only at ar;obtain⟨vs,aa,ae,au⟩:=JH h af
    have dS:=h.eval (.tmp p)
    simp only[aL,Act.eval]at dS
    cases bS:mi P t with
    |some n=>
     simp only[bS]at ar
     split at ar
     ·rename_i hn
      simp only[Option.some.injEq]at ar;subst ar;obtain⟨cY,uE,f,hf⟩:=wA h.heap hc dS (by intro e;subst e;simp at hn;omega)
      obtain⟨g1,g2⟩:=CV bS w
      have mo:=run_loadCells (P:=P) w cY n f (fun j ag=>(hf j (cs[j]'(by omega)) (by simp)).1)
      refine⟨.agg ((List.range n).map f).toArray::vs,?_,by simp[ae],fun j x ag=>?_⟩
      ·simp only[List.mapM_cons,Sem.run_bind,uD,uE,asAddr,Sem.run_pure,Result.andThen_ok,loadVar,g1,g2,if_true,mo,aa]
      ·cases j with
       |zero=>
        simp at ag;subst ag;refine .agg _ _ (by simp;omega) fun j y ag=>?_
        rw[List.getElem?_take]at ag
        split at ag
        ·have:=(hf j y ag).2
         rename_i mU;simpa[mU]using this
        ·cases ag
       |succ j=>exact au j x ag
     ·cases ar
    |none=>
     simp only[bS]at ar
     split at ar
     ·rename_i hsc
      cases cs with
      |nil=>simp at ar
      |cons y cs'=>
       simp only[Option.some.injEq]at ar;subst ar;obtain⟨cY,uE,f,hf⟩:=wA h.heap hc dS (by simp)
       have g1:=zh hsc w
       obtain⟨k2,dB⟩:=hf 0 y rfl;rw[show cY.add 0=cY from by simp[Addr.add]]at k2
       refine⟨f 0::vs,?_,by simp[ae],fun j x ag=>?_⟩
       ·simp only[List.mapM_cons,Sem.run_bind,uD,uE,asAddr,Sem.run_pure,Result.andThen_ok,loadVar,g1]
        simp[run_load,k2,aa]
       ·cases j with
        |zero=>simp at ag;subst ag;exact dB
        |succ j=>exact au j x ag
     ·cases ar
theorem zcm{E:Entry}{s:aP}{a:Act}{w:World}{β:Nat→Value}{ro:Nat→Prop}(h:c5 E G s a w β ro){fn:Func}{r:aD}(af:zu P fn s=some r):
 ∃v,(results fn a.tmps).run P w= .ok v w∧bs w ro s.heap β s.next r v:=by
 unfold zu at af
 cases aY:m7 P s fn.results.toList with
 |none=>simp[aY]at af
 |some l=>
  rw[aY]at af;obtain⟨vs,aa,ae,au⟩:=JH h aY
  have hm:(fn.results.mapM (uD a.tmps)).run P w= .ok vs.toArray w:=by
   rw[Array.mapM_eq_mapM_toList];simp only[Sem.run_map,aa]
   first|rfl|simp
  have rp:(results fn a.tmps).run P w= .ok (if h:vs.toArray.size=1 then vs.toArray[0]else .tuple vs.toArray) w:=by
   rw[zcl,Sem.run_bind,hm];rfl
  refine⟨_,rp,?_⟩
  match l,aY,af,ae,au with
  |[x],_,af,ae,au=>
   injection af with af
   subst af
   have vN:vs.toArray.size=1:=by simpa using ae
   rw[dif_pos vN]
   have:=au 0 x rfl
   have C2:0<vs.length:=by simp at vN;omega
   simpa[List.getD,C2]using this
  |[],_,af,ae,au=>
   injection af with af
   subst af
   have:vs=[]:=List.eq_nil_of_length_eq_zero (by simpa using ae)
   subst this;exact .tuple _ _ rfl (by simp)
  |x::y::h2,_,af,ae,au=>
   injection af with af
   subst af;rw[dif_neg (by simp at ae⊢;omega)]
   refine .tuple _ _ (by simpa using ae) fun j z ag=>?_
   have:=au j z ag
   simpa[List.getD,Array.getD_eq_getD_getElem?]using this
theorem dF.PQ{f:FuncId}{fn:Func}{c:Code}{args:List aD}{σ:Heap}{n k:Nat}{Q:aD→Heap→Prop}(hf:P.funcs[f]? =some fn)(ad:fn.body=some c)(aj:fn.ntmps-args.length=k)
 (h:b2 P G c (zck P fn Q) ⟨args++List.replicate k .top,σ,n,n⟩):dF P G f args σ n Q:=by
 intro w β ro ea bP h3 bb ah bI
 refine calls_of_wp hf ad (wp_mono (h ⟨w,ro,σ,β,n⟩ _ w ⟨β,ro,rfl,?_,?_,bb,ah,?_,Nat.le_refl _⟩) ?_)
 ·simp[bP,aj]
 ·intro i x hi
  simp only at hi
  by_cases JI:i<args.length
  ·rw[List.getElem?_append_left JI]at hi
   have:=h3 i x hi
   have aa:i<ea.size:=by omega
   simpa[Array.getElem?_append_left aa,aa,Array.getElem_append_left aa]using this
  ·rw[List.getElem?_append_right (by omega)]at hi
   rw[List.getElem?_replicate]at hi
   split at hi
   ·simp only[Option.some.injEq]at hi;subst hi;exact .top _
   ·cases hi
 ·exact⟨rfl,rfl,rfl,Nat.le_refl _,fun _ _ _=>rfl,fun _ h=>.inl h,fun _ h=>h,fun _ h=>.inl h,fun id _ o an=>⟨by rw[an];simp,rfl⟩,bI,Nat.le_refl _⟩
 ·intro e bc w' ⟨bq,aJ,dL,ro',af⟩
  obtain⟨he,r,eV,rp,gA,et⟩:=aJ;obtain⟨v,aw,dB⟩:=zcm af rp
  rcases he with rfl|rfl
  ·exact⟨af.defers,v,aw,v,r,eV,dL,ro',bq.next,rfl,et,dB.sub gA,af.heap.sub gA,af.trans.sub gA⟩
  ·exact⟨af.defers,v,aw,v,r,eV,dL,ro',bq.next,rfl,et,dB.sub gA,af.heap.sub gA,af.trans.sub gA⟩
end
end Go.aM
namespace Go.aM
open Go
mutual
def gB(n:Nat):aD→Bool
 | .av _=>true
 | .agg cs=>k3 n cs
 | .tuple cs=>k3 n cs
 | .ptr id _=>decide (id<n)
 | .dA id _=>decide (id<n)
 | .cW id _ _=>decide (id<n)
 | .aO id=>decide (id<n)
 | .fn _ p q=>k3 n p&&k3 n q
 | .ref id=>decide (id<n)
 | .top=>true
def k3(n:Nat):List aD→Bool
 |[]=>true
 |x::r=>gB n x&&k3 n r
end
theorem rq{n:Nat}: ∀{cs:List aD},k3 n cs=true→∀{j:Nat} {x:aD},cs[j]? =some x→gB n x=true
 |[],_,j,x,h=>by simp at h
 |y::r,ad,j,x,h=>by
  simp only[k3,Bool.and_eq_true]at ad
  cases j with
  |zero=>simp at h;subst h;exact ad.1
  |succ j=>simp at h;exact rq ad.2 h
theorem bs.lower{w:World}{ro:Nat→Prop}{σ:Heap}{β:Nat→Value}{N oS:Nat}{x:aD}{c:Value}(h:bs w ro σ β N x c)(ad:gB oS x=true):bs w ro σ β oS x c:=by
 induction h with
 |av x c hx=>exact .av x c hx
 |agg cs c ai _ a1=>
  simp only[gB]at ad;exact .agg cs c ai fun j x ag=>a1 j x ag (rq ad ag)
 |tuple cs c ai _ a1=>
  simp only[gB]at ad;exact .tuple cs c ai fun j x ag=>a1 j x ag (rq ad ag)
 |ptr id off c ar ak=>exact .ptr id off c (by simpa[gB]using ad) ak
 |dA id off c ar ak=>exact .dA id off c (by simpa[gB]using ad) ak
 |cW id i off c ar ak=>exact .cW id i off c (by simpa[gB]using ad) ak
 |aO id c ar ak=>exact .aO id c (by simpa[gB]using ad) ak
 |fn f p q c d aa ae _ _ hh hj=>
  simp only[gB,Bool.and_eq_true]at ad;exact .fn f p q c d aa ae (fun j x ag=>hh j x ag (rq ad.1 ag)) (fun j x ag=>hj j x ag (rq ad.2 ag))
 |ref id c ar ak=>exact .ref id c (by simpa[gB]using ad) ak
 |top c=>exact .top c
def wF(σ:Heap):List Nat→Heap
 |[]=>[]
 |id::r=>match aE σ id with
  |some o=>(id,o)::wF σ r
  |none=>wF σ r
theorem JJ(σ:Heap): ∀(ids:List Nat) (id:Nat) (o:eh),aE (wF σ ids) id=some o→aE σ id=some o
 |[],id,o,h=>by simp[wF,aE]at h
 |k::r,id,o,h=>by
  simp only[wF]at h
  cases aj:aE σ k with
  |none=>rw[aj]at h;exact JJ σ r id o h
  |some p=>
   rw[aj]at h;simp only[aE]at h
   split at h
   ·rename_i he
    subst he;rw[aj];exact h
   ·exact JJ σ r id o h
def k4(n:Nat):Heap→Bool
 |[]=>true
 |(id,.box _ cs)::r=>decide (id<n)&&k3 n cs&&k4 n r
 |(id,.row _ _ _ _)::r=>decide (id<n)&&k4 n r
 |(id,.bM _)::r=>decide (id<n)&&k4 n r
theorem rr{n:Nat}: ∀{σ:Heap},k4 n σ=true→∀{id:Nat} {o:eh},aE σ id=some o→id<n∧∀t cs,o= .box t cs→k3 n cs=true
 |[],_,id,o,h=>by simp[aE]at h
 |(k,.box t cs)::r,ad,id,o,h=>by
  simp only[k4,Bool.and_eq_true,decide_eq_true_eq]at ad;simp only[aE]at h
  split at h
  ·rename_i he
   subst he;simp only[Option.some.injEq]at h;subst h;exact⟨ad.1.1,fun bz cs' he=>by cases he;exact ad.1.2⟩
  ·exact rr ad.2 h
 |(k,.row z t m es)::r,ad,id,o,h=>by
  simp only[k4,Bool.and_eq_true,decide_eq_true_eq]at ad;simp only[aE]at h
  split at h
  ·rename_i he
   subst he;simp only[Option.some.injEq]at h;subst h;exact⟨ad.1,fun bz cs' he=>by cases he⟩
  ·exact rr ad.2 h
 |(k,.bM bN)::r,ad,id,o,h=>by
  simp only[k4,Bool.and_eq_true,decide_eq_true_eq]at ad;simp only[aE]at h
  split at h
  ·rename_i he
   subst he;simp only[Option.some.injEq]at h;subst h;exact⟨ad.1,fun bz cs' he=>by cases he⟩
  ·exact rr ad.2 h
mutual
def hN(σ:Heap):aD→aD
 | .aO id=>match aE σ id with
  |some (.row true _ n es)=>.av (.aO n es)
  |_=>.aO id
 | .agg cs=>.agg (kF σ cs)
 | .tuple cs=>.tuple (kF σ cs)
 | .fn f p q=>.fn f (kF σ p) (kF σ q)
 | .av x=>.av x
 | .ptr id off=>.ptr id off
 | .dA id off=>.dA id off
 | .cW id i off=>.cW id i off
 | .ref id=>.ref id
 | .top=>.top
def kF(σ:Heap):List aD→List aD
 |[]=>[]
 |x::r=>hN σ x::kF σ r
end
theorem nW(σ:Heap): ∀(l:List aD),(kF σ l).length=l.length
 |[]=>rfl
 |x::r=>by simp[kF,nW σ r]
theorem o1(σ:Heap): ∀{l:List aD} {j:Nat} {x:aD},(kF σ l)[j]? =some x→∃y,l[j]? =some y∧x=hN σ y
 |[],j,x,h=>by simp[kF]at h
 |y::r,j,x,h=>by
  cases j with
  |zero=>simp[kF]at h;exact⟨y,by simp,h.symm⟩
  |succ j=>simp[kF]at h;simpa using o1 σ h
theorem zcn{w:World}{ro:Nat→Prop}{σ:Heap}{β:Nat→Value}{N:Nat}(bb:hb w ro σ β N){x:aD}{c:Value}(h:bs w ro σ β N x c):bs w ro σ β N (hN σ x) c:=by
 induction h with
 |aO id c ar ak=>
  simp only[hN]
  split
  ·rename_i t n es ah
   rw[ak true t n es ah]
   have:=bb.c7 id _ ah
   cases this with
   |ga _ _ _ aa=>exact .av _ _ aa
  ·exact .aO id c ar ak
 |av x c h=>exact .av x c h
 |agg cs c aa _ a1=>
  refine .agg _ c (by rw[nW];exact aa) fun j x ag=>?_
  obtain⟨y,ax,rfl⟩:=o1 σ ag;exact a1 j y ax
 |tuple cs c aa _ a1=>
  refine .tuple _ c (by rw[nW];exact aa) fun j x ag=>?_
  obtain⟨y,ax,rfl⟩:=o1 σ ag;exact a1 j y ax
 |ptr id off c aa ae=>exact .ptr id off c aa ae
 |dA id off c aa ae=>exact .dA id off c aa ae
 |cW id i off c aa ae=>exact .cW id i off c aa ae
 |fn f p q c d aa ae _ _ hh hj=>
  refine .fn f _ _ c d (by rw[nW];exact aa) (by rw[nW];exact ae) (fun j x ag=>?_) (fun j x ag=>?_)
  ·obtain⟨y,ax,rfl⟩:=o1 σ ag
   exact hh j y ax
  ·obtain⟨y,ax,rfl⟩:=o1 σ ag
   exact hj j y ax
 |ref id c aa ae=>exact .ref id c aa ae
 |top c=>exact .top c
mutual
def fA:aD→Bool
 | .av _=>true
 | .agg cs=>e4 cs
 | .tuple cs=>e4 cs
 | .fn _ p q=>e4 p&&e4 q
 | .top=>true
 | .ptr _ _=>false
 | .dA _ _=>false
 | .cW _ _ _=>false
 | .aO _=>false
 | .ref _=>false
def e4:List aD→Bool
 |[]=>true
 |x::r=>fA x&&e4 r
end
theorem m8: ∀{cs:List aD},e4 cs=true→∀{j:Nat} {x:aD},cs[j]? =some x→fA x=true
 |[],_,j,x,h=>by simp at h
 |y::r,ad,j,x,h=>by
  simp only[e4,Bool.and_eq_true]at ad
  cases j with
  |zero=>simp at h;subst h;exact ad.1
  |succ j=>simp at h;exact m8 ad.2 h
theorem C3(l:List a6):e4 (l.map .av)=true:=by
 induction l with
 |nil=>rfl
 |cons x r a1=>simp[e4,fA,a1]
theorem nX{w:World}{ro:Nat→Prop}{σ bV:Heap}{β zv:Nat→Value}{N M:Nat}{x:aD}{c:Value}(h:bs w ro σ β N x c)(ak:fA x=true):bs w ro bV zv M x c:=by
 induction h with
 |av x c h=>exact .av x c h
 |agg cs c aa _ a1=>
  simp only[fA]at ak;exact .agg cs c aa fun j x ag=>a1 j x ag (m8 ak ag)
 |tuple cs c aa _ a1=>
  simp only[fA]at ak;exact .tuple cs c aa fun j x ag=>a1 j x ag (m8 ak ag)
 |fn f p q c d aa ae _ _ hh hj=>
  simp only[fA,Bool.and_eq_true]at ak;exact .fn f p q c d aa ae (fun j x ag=>hh j x ag (m8 ak.1 ag)) (fun j x ag=>hj j x ag (m8 ak.2 ag))
 |top c=>exact .top c
 |ptr=>simp[fA]at ak
 |dA=>simp[fA]at ak
 |cW=>simp[fA]at ak
 |aO=>simp[fA]at ak
 |ref=>simp[fA]at ak
mutual
def qj(d:Nat):aD→aD
 | .av x=>.av x
 | .agg cs=>.agg (lG d cs)
 | .tuple cs=>.tuple (lG d cs)
 | .ptr id off=>.ptr (d+id) off
 | .dA id off=>.dA (d+id) off
 | .cW id i off=>.cW (d+id) i off
 | .aO id=>.aO (d+id)
 | .fn f p q=>.fn f (lG d p) (lG d q)
 | .ref id=>.ref (d+id)
 | .top=>.top
def lG(d:Nat):List aD→List aD
 |[]=>[]
 |x::r=>qj d x::lG d r
end
def k5(d:Nat):Heap→Heap
 |[]=>[]
 |(id,.box t cs)::r=>(d+id,.box t (lG d cs))::k5 d r
 |(id,.row z t n es)::r=>(d+id,.row z t n es)::k5 d r
 |(id,.bM bN)::r=>(d+id,.bM bN)::k5 d r
def kG(d:Nat):eh→eh
 | .box t cs=>.box t (lG d cs)
 | .row z t n es=>.row z t n es
 | .bM bN=>.bM bN
theorem wG(d:Nat): ∀(l:List aD),(lG d l).length=l.length
 |[]=>rfl
 |x::r=>by simp[lG,wG d r]
theorem wH(d:Nat): ∀{l:List aD} {j:Nat} {x:aD},(lG d l)[j]? =some x→∃y,l[j]? =some y∧x=qj d y
 |[],j,x,h=>by simp[lG]at h
 |y::r,j,x,h=>by
  cases j with
  |zero=>simp[lG]at h;exact⟨y,by simp,h.symm⟩
  |succ j=>simp[lG]at h;simpa using wH d h
theorem Q0(σ bV:Heap)(id:Nat):aE (σ++bV) id=(aE σ id).or (aE bV id):=by
 induction σ with
 |nil=>simp[aE]
 |cons p r a1=>
  obtain⟨k,o⟩:=p;simp only[List.cons_append,aE]
  split
  ·simp
  ·exact a1
theorem zw(d:Nat): ∀(σ:Heap) (id:Nat),aE (k5 d σ) id=if d≤id then(aE σ (id-d)).map (kG d)else none
 |[],id=>by simp[k5,aE]
 |(k,.box t cs)::r,id=>by
  simp only[k5,aE,zw d r]
  by_cases aa:d+k=id
  ·have ae:d≤id:=by omega
   have au:k=id-d:=by omega
   simp[ae,au,kG]
  ·by_cases ae:d≤id
   ·have au: ¬k=id-d:=by omega
    simp[aa,ae,au]
   ·simp[aa,ae]
 |(k,.row z t n es)::r,id=>by
  simp only[k5,aE,zw d r]
  by_cases aa:d+k=id
  ·have ae:d≤id:=by omega
   have au:k=id-d:=by omega
   simp[ae,au,kG]
  ·by_cases ae:d≤id
   ·have au: ¬k=id-d:=by omega
    simp[aa,ae,au]
   ·simp[aa,ae]
 |(k,.bM bN)::r,id=>by
  simp only[k5,aE,zw d r]
  by_cases aa:d+k=id
  ·have ae:d≤id:=by omega
   have au:k=id-d:=by omega
   simp[ae,au,kG]
  ·by_cases ae:d≤id
   ·have au: ¬k=id-d:=by omega
    simp[aa,ae,au]
   ·simp[aa,ae]
theorem bs.shift{w:World}{ro ro':Nat→Prop}{σ bV:Heap}{β zv:Nat→Value}{N M:Nat}{x:aD}{c:Value}(h:bs w ro σ β N x c)(cc: ∀b,ro b→ro' b)
 (JK: ∀id o,aE bV id=some o→id<M):
 bs w ro' (k5 M σ++bV) (fun k=>if M≤k then β (k-M)else zv k) (M+N) (qj M x) c:=by
 have key: ∀id,aE (k5 M σ++bV) (M+id)=(aE σ id).map (kG M):=by
  intro id;rw[Q0,zw]
  have aa:M≤M+id:=by omega
  simp only[aa,if_true,Nat.add_sub_cancel_left]
  cases ai:aE σ id with
  |some o=>simp
  |none=>
   simp
   cases aI:aE bV (M+id)with
   |none=>rfl
   |some o=>have:=JK _ _ aI;omega
 induction h with
 |av x c hx=>exact .av x c (hx.keep (fun _ _=>rfl) cc)
 |agg cs c ai _ a1=>
  refine .agg _ c (by rw[wG];exact ai) fun j x ag=>?_
  obtain⟨y,ax,rfl⟩:=wH M ag;exact a1 j y ax
 |tuple cs c ai _ a1=>
  refine .tuple _ c (by rw[wG];exact ai) fun j x ag=>?_
  obtain⟨y,ax,rfl⟩:=wH M ag;exact a1 j y ax
 |ptr id off c ar ak=>
  refine .ptr _ off c (by omega) fun t cs ah=>?_
  rw[key]at ah;simp only[Nat.le_add_right,if_true,Nat.add_sub_cancel_left]
  cases ai:aE σ id with
  |none=>simp[ai]at ah
  |some o=>
   cases o with
   |box bz cs'=>exact ak bz cs' ai
   |row=>simp[ai,kG]at ah
   |bM=>simp[ai,kG]at ah
 |dA id off c ar ak=>
  refine .dA _ off c (by omega) fun t cs ah=>?_
  rw[key]at ah;simp only[Nat.le_add_right,if_true,Nat.add_sub_cancel_left]
  cases ai:aE σ id with
  |none=>simp[ai]at ah
  |some o=>
   cases o with
   |box bz cs'=>exact ak bz cs' ai
   |row=>simp[ai,kG]at ah
   |bM=>simp[ai,kG]at ah
 |cW id i off c ar ak=>
  refine .cW _ i off c (by omega) fun z t n es ah=>?_
  rw[key]at ah;simp only[Nat.le_add_right,if_true,Nat.add_sub_cancel_left]
  cases ai:aE σ id with
  |none=>simp[ai]at ah
  |some o=>
   cases o with
   |box bz cs'=>simp[ai,kG]at ah
   |bM=>simp[ai,kG]at ah
   |row iv bz cJ dP=>
    simp only[ai,Option.map_some,kG,Option.some.injEq,eh.row.injEq]at ah;obtain⟨rfl,rfl,rfl,rfl⟩:=ah;exact ak _ _ _ _ ai
 |aO id c ar ak=>
  refine .aO _ c (by omega) fun z t n es ah=>?_
  rw[key]at ah;simp only[Nat.le_add_right,if_true,Nat.add_sub_cancel_left]
  cases ai:aE σ id with
  |none=>simp[ai]at ah
  |some o=>
   cases o with
   |box bz cs'=>simp[ai,kG]at ah
   |bM=>simp[ai,kG]at ah
   |row iv bz cJ dP=>exact ak _ _ _ _ ai
 |fn f p q c d aa ae _ _ hh hj=>
  refine .fn f _ _ c d (by rw[wG];exact aa) (by rw[wG];exact ae) (fun j x ag=>?_) (fun j x ag=>?_)
  ·obtain⟨y,ax,rfl⟩:=wH M ag
   exact hh j y ax
  ·obtain⟨y,ax,rfl⟩:=wH M ag
   exact hj j y ax
 |ref id c ar ak=>
  refine .ref _ c (by omega) fun bN ah=>?_
  rw[key]at ah;simp only[Nat.le_add_right,if_true,Nat.add_sub_cancel_left]
  cases ai:aE σ id with
  |none=>simp[ai]at ah
  |some o=>
   cases o with
   |box=>simp[ai,kG]at ah
   |row=>simp[ai,kG]at ah
   |bM lE=>exact ak lE ai
 |top c=>exact .top c
def m9(P:Program)(f:FuncId):Bool:=
 match P.funcs[f]? with
 |some fn=>!(fn.name== "runtime.NumGoroutine")&&fn.body.isSome
 |none=>false
theorem C4{P:Program}{f:FuncId}(h:m9 P f=true)(args:Array Value)(w:World):(callFunc f args).run P w= .ok (.enter f args) w:=by
 unfold m9 at h
 split at h
 ·rename_i fn hf
  simp only[Bool.and_eq_true,Bool.not_eq_true']at h
  have ae:fn.body≠none:=by intro e;simp[e]at h
  have au:fn.name≠ "runtime.NumGoroutine" :=by simpa using h.1
  simp[callFunc,hf,ae,au]
 ·cases h
section
variable {P:Program} {G:a8} {s:aP} {Q:Exit→aP→Prop}
theorem mg.call{o:Oper}{x:Operand}{xs:Array Operand}{ts:Array TypeId}(an:o.op= .call {callee:=.value x,args:=xs,argTypes:=ts}){f:FuncId}(hx:aL G s x= .fn (.func f) [] [])
 (gC:m9 P f=true){args:List aD}(h3:xs.toList.map (fun y=>hN s.heap (aL G s y))=args)(o2:e4 args=true){R:aD→Heap→Prop}(hc:dF P G f args [] 0 R){K:Nat}{r:aD}{bV:Heap}
 (fL: ∀eR fB,R eR fB→eR=r∧fB=bV)(JL:gB K r=true)(C5:k4 K bV=true)(ad:s.base≤s.next):
 mg P G o s ({s with heap:=k5 s.next bV++s.heap,next:=s.next+K}.put o.dst (qj s.next r)):=by
 intro E a w ⟨β,ro,h⟩ zco zcp JM
 have lH:=h.eval x
 rw[hx]at lH
 generalize he:a.eval x=JN at lH
 cases lH with
 |fn _ _ _ c d aa ae _ _=>
  have hC:c= #[]:=by simpa using aa
  have ox:d= #[]:=by simpa using ae
  subst hC ox;unfold Oper.wp;simp only[execOp,an,resolve,he,Deferred.ofValue,Sem.run_bind,Sem.run_pure,Result.andThen_ok,invoke,Array.empty_append,Array.append_empty];rw[C4 gC]
  have hlen:xs.toList.length=args.length:=by have:=congrArg List.length h3;simpa using this
  have hk:=hc w β ro (xs.map a.eval) (by simpa using hlen) (fun i y ax=>by
   have hi:(xs.toList.map (fun y=>hN s.heap (aL G s y)))[i]? =some y:=by rw[h3];exact ax
   rw[List.getElem?_map]at hi
   cases JO:xs.toList[i]? with
   |none=>simp[JO]at hi
   |some z=>
    simp[JO]at hi
    have aw:=zcn h.heap (h.eval z)
    rw[hi]at aw
    have zcq:xs[i]? =some z:=by simpa using JO
    have dS:(xs.map a.eval).getD i undef=a.eval z:=by simp[zcq]
    rw[dS]
    exact nX aw (m8 o2 ax)) ⟨by simp[aE],by simp[aE],fun b _ ⟨_,_,ah,_⟩=>by simp[aE]at ah,h.heap.lt⟩ h.ic (by simp[aE])
  refine Calls.mono hk fun e w' aJ=>?_
  obtain⟨v,eR,fB,dL,ro',cJ,rfl,zcr,dB,hO,cE⟩:=aJ;obtain⟨rfl,rfl⟩:=fL eR fB zcr
  have k6: ∀b,¬Own ([]:Heap) β b:=fun b ⟨_,_,ah,_⟩=>by simp[aE]at ah
  have lI: ∀b,b<w.heap.size→w'.heap[b]? =w.heap[b]? :=fun b ad=>cE.frame b ad (k6 b)
  have ru:=dB.lower JL
  have fc:=h.heap
  have JP:=fun id o ah=>h.trans.new id o ah
  have cc: ∀b,ro b→w'.heap[b]? =w.heap[b]? :=fun b ad=>lI b (h.heap.lt b ad)
  have nU: ∀k p b,aE s.heap k=some p→p.live=true→b4 (β k)=some b→b<w.heap.size:=fun k p b aj ak bg=>(h.heap.c7 k p aj).hJ ak bg
  have C6: ∀k p b,aE fB k=some p→p.live=true→b4 (dL k)=some b→w.heap.size≤b:=by
   intro k p b aj ak bg
   rcases cE.hg b ⟨k,p,aj,ak,bg⟩with hc|hc
   ·exact absurd hc (k6 b)
   ·exact hc

  have look: ∀id,aE (k5 s.next fB++s.heap) id=if s.next≤id then(aE fB (id-s.next)).map (kG s.next)else aE s.heap id:=by
   intro id;rw[Q0,zw]
   by_cases hi:s.next≤id
   ·simp only[hi,if_true]
    cases ai:aE fB (id-s.next)with
    |some p=>simp
    |none=>
     simp
     cases aI:aE s.heap id with
     |none=>rfl
     |some p=>have:=JP _ _ aI;omega
   ·simp[hi]
  have up: ∀x c,bs w ro s.heap β s.next x c→bs w' (fun b=>ro b∨ro' b) (k5 s.next fB++s.heap) (fun k=>if s.next≤k then dL (k-s.next)else β k) (s.next+K) x c:=by
   intro x c hx
   induction hx with
   |av x c hx=>exact .av x c (hx.keep cc fun _ h=>.inl h)
   |agg cs c ai _ a1=>exact .agg cs c ai a1
   |tuple cs c ai _ a1=>exact .tuple cs c ai a1
   |ptr k off c ar ak=>
    have aj: ¬s.next≤k:=by omega
    exact .ptr k off c (by omega) fun t cs bo=>by rw[look,if_neg aj]at bo;simp only[aj,if_false];exact ak t cs bo
   |dA k off c ar ak=>
    have aj: ¬s.next≤k:=by omega
    exact .dA k off c (by omega) fun t cs bo=>by rw[look,if_neg aj]at bo;simp only[aj,if_false];exact ak t cs bo
   |cW k i off c ar ak=>
    have aj: ¬s.next≤k:=by omega
    exact .cW k i off c (by omega) fun z t n es bo=>by rw[look,if_neg aj]at bo;simp only[aj,if_false];exact ak z t n es bo
   |aO k c ar ak=>
    have aj: ¬s.next≤k:=by omega
    exact .aO k c (by omega) fun z t n es bo=>by rw[look,if_neg aj]at bo;simp only[aj,if_false];exact ak z t n es bo
   |fn f p q c d aa ae _ _ hh hj=>exact .fn f p q c d aa ae hh hj
   |ref k c ar ak=>
    have aj: ¬s.next≤k:=by omega
    exact .ref k c (by omega) fun bN bo=>by rw[look,if_neg aj]at bo;simp only[aj,if_false];exact ak bN bo
   |top c=>exact .top c
  have Q1: ∀b,ro' b→ro b∨w.heap.size≤b:=fun b ad=>by
   rcases cE.jk b ad with h|h|h
   ·exact .inl h
   ·exact absurd h (k6 b)
   ·exact .inr h
  refine JM _ _ ⟨fun k=>if s.next≤k then dL (k-s.next)else β k,fun b=>ro b∨ro' b,c5.put (s:={s with heap:=k5 s.next fB++s.heap,next:=s.next+K}) ⟨h.defers,h.size,fun i x hx=>up _ _ (h.slot i x hx),⟨fun id p ah=>?_,?_,?_,?_⟩,?_,?_,h.base⟩ o.dst _ _ ?_⟩ lI
  ·simp only[look]at ah
   by_cases hi:s.next≤id
   ·simp only[hi,if_true]at ah
    cases ai:aE fB (id-s.next)with
    |none=>simp[ai]at ah
    |some q=>
     simp[ai]at ah;subst ah;obtain⟨_,zx⟩:=rr C5 ai
     have gJ:=hO.c7 _ q ai
     cases gJ with
     |box t cs b arr aC bf cg ek=>
      refine .box t _ b arr (by simp[hi,aC]) bf (by rw[wG];exact cg) fun j x ag=>?_
      obtain⟨y,ax,rfl⟩:=wH s.next ag;exact bs.shift ((ek j y ax).lower (rq (zx t cs rfl) ax)) (fun _ h=>.inr h) JP
     |row t n es xs aC bf cg=>exact .row t n es xs (by simp only[hi,if_true];exact aC) bf fun j x ag=>(cg j x ag).keep (fun _ _=>rfl) fun _ h=>.inr h
     |ga t n es aC=>exact .ga t n es (by simp only[hi,if_true];exact aC.keep (fun _ _=>rfl) fun _ h=>.inr h)
     |bM bN b o aC bf cg=>exact .bM bN b o (by simp only[hi,if_true];exact aC) bf (by simp only[hi,if_true];exact bN.mono _ _ _ _ (fun x c h=>h.keep (fun _ _=>rfl) fun _ h=>.inr h) cg)
   ·simp only[hi,if_false]at ah
    have gJ:=h.heap.c7 id p ah
    cases gJ with
    |box t cs b arr aC bf cg ek=>
     have hL:=nU id _ b ah rfl (by rw[aC];rfl)
     exact .box t cs b arr (by simp only[hi,if_false];exact aC) ((lI b hL).trans bf) cg fun j x ag=>up _ _ (ek j x ag)
    |row t n es xs aC bf cg=>
     exact .row t n es xs (by simp only[hi,if_false];exact aC.keep (fun b ad=>lI b (aC.hJ ad).1) cE.size) bf fun j x ag=>(cg j x ag).keep cc fun _ h=>.inl h
    |ga t n es aC=>exact .ga t n es (by simp only[hi,if_false];exact aC.keep cc fun _ h=>.inl h)
    |bM bN b o aC bf cg=>exact .bM bN b o (by simp only[hi,if_false];exact aC) ((lI b (Array.getElem?_eq_some_iff.1 bf).1).trans bf) (by simp only[hi,if_false];exact bN.mono _ _ _ _ (fun x c h=>h.keep cc fun _ h=>.inl h) cg)
  ·intro id gm p fV b ah dV ak gI bg er
   rw[look]at ah dV
   by_cases hi:s.next≤id
   ·simp only[hi,if_true]at ah bg
    cases ai:aE fB (id-s.next)with
    |none=>simp[ai]at ah
    |some q=>
     have rh:q.live=true:=by simp[ai]at ah;subst ah;cases q<;>first|rfl|exact ak
     have h9:=C6 _ q b ai rh bg
     by_cases hl:s.next≤gm
     ·simp only[hl,if_true]at dV er
      cases eX:aE fB (gm-s.next)with
      |none=>simp[eX]at dV
      |some q'=>
       have zl:q'.live=true:=by simp[eX]at dV;subst dV;cases q'<;>first|rfl|exact gI
       have:=hO.inj _ _ q q' b ai eX rh zl bg er
       omega
     ·simp only[hl,if_false]at dV er
      have:=nU gm fV b dV gI er
      omega
   ·simp only[hi,if_false]at ah bg
    have JQ:=nU id p b ah ak bg
    by_cases hl:s.next≤gm
    ·simp only[hl,if_true]at dV er
     cases eX:aE fB (gm-s.next)with
     |none=>simp[eX]at dV
     |some q'=>
      have zl:q'.live=true:=by simp[eX]at dV;subst dV;cases q'<;>first|rfl|exact gI
      have h9:=C6 _ q' b eX zl er
      omega
    ·simp only[hl,if_false]at dV er
     exact h.heap.inj id gm p fV b ah dV ak gI bg er
  ·rintro b ad ⟨id,p,ah,ak,bg⟩
   rw[look]at ah
   by_cases hi:s.next≤id
   ·simp only[hi,if_true]at ah bg
    cases ai:aE fB (id-s.next)with
    |none=>simp[ai]at ah
    |some q=>
     have rh:q.live=true:=by simp[ai]at ah;subst ah;cases q<;>first|rfl|exact ak
     have h9:=C6 _ q b ai rh bg
     rcases ad with ad|ad
     ·have:=h.heap.lt b ad;omega
     ·exact hO.ff b ad ⟨_,q,ai,rh,bg⟩
   ·simp only[hi,if_false]at ah bg
    have JQ:=nU id p b ah ak bg
    rcases ad with ad|ad
    ·exact h.heap.ff b ad ⟨id,p,ah,ak,bg⟩
    ·rcases Q1 b ad with hc|hc
     ·exact h.heap.ff b hc ⟨id,p,ah,ak,bg⟩
     ·omega
  ·intro b ad
   rcases ad with ad|ad
   ·exact Nat.lt_of_lt_of_le (h.heap.lt b ad) cE.size
   ·exact hO.lt b ad
  ·exact h.ic.keep cc fun _ h=>.inl h
  ·have t:=h.trans
   refine⟨cE.os.trans t.os,cE.tape.trans t.tape,cE.output.trans t.output,Nat.le_trans t.size cE.size,fun b hL gd=>(lI b (Nat.lt_of_lt_of_le hL t.size)).trans (t.frame b hL gd),?_,fun b ad=>.inl (t.j7 b ad),?_,?_,?_,?_⟩
   ·intro b ad
    rcases ad with ad|ad
    ·exact t.jk b ad
    ·rcases Q1 b ad with hc|hc
     ·exact t.jk b hc
     ·exact .inr (.inr (Nat.le_trans t.size hc))
   ·rintro b ⟨id,p,ah,ak,bg⟩
    rw[look]at ah
    by_cases hi:s.next≤id
    ·simp only[hi,if_true]at ah bg
     cases ai:aE fB (id-s.next)with
     |none=>simp[ai]at ah
     |some q=>
      have rh:q.live=true:=by simp[ai]at ah;subst ah;cases q<;>first|rfl|exact ak
      exact .inr (Nat.le_trans t.size (C6 _ q b ai rh bg))
    ·simp only[hi,if_false]at ah bg
     exact t.hg b ⟨id,p,ah,ak,bg⟩
   ·intro id bd p ah
    have aa:=h.base
    have hi: ¬s.next≤id:=by omega
    rw[look,if_neg hi]at ah;simp only[hi,if_false];exact t.dK id bd p ah
   ·intro id p ah
    simp only[look]at ah
    by_cases hi:s.next≤id
    ·simp only[hi,if_true]at ah
     cases ai:aE fB (id-s.next)with
     |none=>simp[ai]at ah
     |some q=>
      have:=(rr C5 ai).1
      show id<s.next+K;omega
    ·show id<s.next+K
     omega
   ·have:=h.base
    show E.n≤s.next+K;omega
  ·exact bs.shift ru (fun _ h=>.inr h) JP
theorem dQ.call{o:Oper}{x:Operand}{xs:Array Operand}{ts:Array TypeId}(an:o.op= .call {callee:=.value x,args:=xs,argTypes:=ts}){f:FuncId}(hx:aL G s x= .fn (.func f) [] [])
 (gC:m9 P f=true){args:List aD}(h3:xs.toList.map (fun y=>hN s.heap (aL G s y))=args)(o2:e4 args=true){R:aD→Heap→Prop}(hc:dF P G f args [] 0 R){K:Nat}{r:aD}{bV:Heap}
 (fL: ∀eR fB,R eR fB→eR=r∧fB=bV)(JL:gB K r=true)(C5:k4 K bV=true)(ad:s.base≤s.next):
 dQ P G o s ({s with heap:=k5 s.next bV++s.heap,next:=s.next+K}.put o.dst (qj s.next r)):=(mg.call an hx gC h3 o2 hc fL JL C5 ad).op
end
end Go.aM
namespace Go.aM
open Go
section
variable {P:Program} {G:a8} {o:Oper} {s:aP}
theorem cP.Q2{w:World}{ro:Nat→Prop}{n:Nat}{es:List (List a6)}{c:Value}(h:cP w ro (.aO n es) c): ∃b cap,c= .slice b es.length cap:=by
 cases h with
 |aO _ _ b cap=>exact⟨b,cap,rfl⟩
def k7(σ:Heap):aD→Option Nat
 | .av (.aO _ es)=>some es.length
 | .av (.v (.slice none 0 0))=>some 0
 | .aO id=>match aE σ id with
  |some (.row _ _ _ es)=>some es.length
  |_=>none
 |_=>none
theorem zcs{w:World}{ro:Nat→Prop}{σ:Heap}{β:Nat→Value}{N:Nat}(bb:hb w ro σ β N){x:aD}{c:Value}(h:bs w ro σ β N x c){m:Nat}(hm:k7 σ x=some m): ∃b cap,c= .slice b m cap:=by
 cases h with
 |av x c hx=>
  cases hx with
  |v _ aa=>
   cases c with
   |slice a l h1=>
    cases a with
    |none=>
     cases l with
     |zero=>
      cases h1 with
      |zero=>simp[k7]at hm;subst hm;exact⟨_,_,rfl⟩
      |succ=>simp[k7]at hm
     |succ=>simp[k7]at hm
    |some=>simp[k7]at hm
   |_=>simp[k7]at hm
  |ptr=>simp[k7]at hm
  |mp=>simp[k7]at hm
  |ep=>simp[k7]at hm
  |li=>simp[k7]at hm
  |aO n es b cap c aa ae au aR bA=>
   simp only[k7,Option.some.injEq]at hm;subst hm;exact⟨b,cap,rfl⟩
 |aO id c ar ak=>
  simp only[k7]at hm
  split at hm
  ·rename_i z t n es ah
   simp only[Option.some.injEq]at hm;subst hm;rw[ak z t n es ah]
   have:=bb.c7 id _ ah
   cases this with
   |row _ _ _ xs aa=>
    rcases aa.2 with⟨⟨_,aw,_⟩,aQ⟩|⟨g,cap,cur,aw,_⟩
    ·rw[aw,aQ];exact⟨_,_,rfl⟩
    ·rw[aw];exact⟨_,_,rfl⟩
   |ga _ _ _ aa=>exact aa.Q2
  ·cases hm
 |_=>simp[k7]at hm
def isSlice(P:Program)(t:TypeId):Bool:=
 match P.underlying t with
 |some (.slice _)=>true
 |_=>false
theorem JR(x:Operand)(t:TypeId)(an:o.op= .call {callee:=.builtin .len,args:=#[x],argTypes:=#[t]})(aI:isSlice P t=true){m:Nat}(hm:k7 s.heap (aL G s x)=some m):
 cN P G o s (.av (.v (.int .i64 (m:Int)))):=
 fun _ a w β ro af=>by
  obtain⟨b,cap,hc⟩:=zcs af.heap (af.eval x) hm;unfold isSlice at aI
  split at aI
  ·rename_i e hu
   refine⟨.int .i64 m,?_,.fz rfl⟩
   simp[execOp,an,resolve,invoke,builtin,hc,Builtin.len_,run_underlying hu,goInt]
  ·cases aI
theorem JS(x:Operand)(t:TypeId)(an:o.op= .call {callee:=.builtin .len,args:=#[x],argTypes:=#[t]})(aI:P.underlying t=some .string){b:ByteArray}(hx:aL G s x= .av (.v (.string b))):
 cN P G o s (.av (.v (.int .i64 (b.size:Int)))):=
 fun _ a w β ro af=>by
  refine⟨.int .i64 b.size,?_,.fz rfl⟩
  simp[execOp,an,resolve,invoke,builtin,af.ec hx,Builtin.len_,run_underlying aI,goInt]
def C7(P:Program)(t:TypeId):Option Nat:=
 match P.underlying t with
 |some (.array n _)=>some n
 |some (.pointer a)=>match P.underlying a with
  |some (.array n _)=>some n
  |_=>none
 |_=>none
theorem Q3(x:Operand)(t:TypeId)(an:o.op= .call {callee:=.builtin .len,args:=#[x],argTypes:=#[t]}){n:Nat}(aI:C7 P t=some n):
 cN P G o s (.av (.v (.int .i64 (n:Int)))):=
 fun _ a w β ro af=>by
  refine⟨.int .i64 n,?_,.fz rfl⟩
  unfold C7 at aI
  split at aI
  ·rename_i m e hu
   simp only[Option.some.injEq]at aI;subst aI;simp[execOp,an,resolve,invoke,builtin,Builtin.len_,run_underlying hu,goInt]
  ·rename_i p hu
   split at aI
   ·rename_i m e zct
    simp only[Option.some.injEq]at aI;subst aI;simp[execOp,an,resolve,invoke,builtin,Builtin.len_,run_underlying hu,run_underlying zct,goInt]
   ·cases aI
  ·cases aI
def kc(P:Program)(t:TypeId):Option Nat:=
 match P.underlying t with
 |some (.slice e)=>(P.info? e).map (·.size)
 |_=>none
theorem zy{t n:Nat}(h:kc P t=some n): ∃e,P.underlying t=some (.slice e)∧∀w,(sizeOf e).run P w= .ok n w:=by
 unfold kc at h
 split at h
 ·rename_i e hu
  cases hi:P.info? e with
  |none=>simp[hi]at h
  |some i=>
   simp[hi]at h;subst h;exact⟨e,hu,fun w=>by simp[sizeOf,typeInfo,hi]⟩
 ·cases h
def mq(σ:Heap)(n j:Nat):aD→Option aD
 | .av (.aO m es)=>if m=n then match es[j]? with
  |some e=>some (.av (.ptr e))
  |none=>none
  else none
 | .aO id=>match aE σ id with
  |some (.row false _ m es)=>if m=n∧j<es.length then some (.cW id j 0)else none
  |some (.row true _ m es)=>if m=n then match es[j]? with
   |some e=>some (.av (.ptr e))
   |none=>none
   else none
  |_=>none
 |_=>none
theorem cP.elem{w:World}{ro:Nat→Prop}{n:Nat}{es:List (List a6)}{c:Value}(h:cP w ro (.aO n es) c){j:Nat}{e:List a6}(ag:es[j]? =some e):
 ∃a cap,c= .slice (some a) es.length cap∧cP w ro (.ptr e) (.pointer (some (a.add (j*n)))):=by
 cases h with
 |aO _ _ b cap f aa ae au aR bA=>
  have cL:j<es.length:=(List.getElem?_eq_some_iff.1 ag).1
  obtain⟨a,rfl,hc⟩:=aR (by omega)
  have nT:e.length=n:=au e (List.mem_of_getElem? ag)
  have kS:j*n+n≤es.length*n:=by rw[←Nat.succ_mul];exact Nat.mul_le_mul_right n cL
  refine⟨a,cap,rfl,.ptr _ _ (fun k=>f (j*n+k)) (fun k x aj=>?_) (fun k x aj=>?_)⟩
  ·have o3:k<n:=by have:=(List.getElem?_eq_some_iff.1 aj).1;omega
   rw[qd,zf];exact hc _ (by omega)
  ·have o3:k<n:=by have:=(List.getElem?_eq_some_iff.1 aj).1;omega
   exact bA _ _ (by rw[re au ag k o3];exact aj)
theorem Q4{w:World}{ro:Nat→Prop}{σ:Heap}{β:Nat→Value}{N:Nat}(bb:hb w ro σ β N){x:aD}{c:Value}(h:bs w ro σ β N x c){n j:Nat}{p:aD}(ak:mq σ n j x=some p):
 ∃a len cap,c= .slice (some a) len cap∧j<len∧bs w ro σ β N p (.pointer (some (a.add (j*n)))):=by
 cases h with
 |av x c hx=>
  cases x with
  |v=>simp[mq]at ak
  |ptr=>simp[mq]at ak
  |mp=>simp[mq]at ak
  |ep=>simp[mq]at ak
  |li=>simp[mq]at ak
  |aO m es=>
   simp only[mq]at ak
   split at ak
   ·rename_i hm
    subst hm
    split at ak
    ·rename_i e he
     simp only[Option.some.injEq]at ak;subst ak;obtain⟨a,cap,hc,af⟩:=hx.elem he;exact⟨a,es.length,cap,hc,(List.getElem?_eq_some_iff.1 he).1,.av _ _ af⟩
    ·cases ak
   ·cases ak
 |aO id c ar aJ=>
  simp only[mq]at ak
  split at ak
  ·rename_i t m es ah
   split at ak
   ·rename_i hm
    obtain⟨rfl,ag⟩:=hm;simp only[Option.some.injEq]at ak;subst ak
    have dk:=bb.c7 id _ ah
    cases dk with
    |row _ _ _ xs aa=>
     rcases aa.2 with⟨_,aQ⟩|⟨g,cap,cur,aw,_⟩
     ·omega
     ·rw[aJ _ _ _ _ ah,aw]
      refine⟨_,_,_,rfl,ag,.cW _ _ _ _ ar fun iv bz cJ dP dV=>?_⟩
      rw[ah]at dV;simp only[Option.some.injEq,eh.row.injEq]at dV;obtain⟨_,_,rfl,_⟩:=dV;exact⟨g,_,_,aw,by rw[addLit];simp⟩
   ·cases ak
  ·rename_i t m es ah
   split at ak
   ·rename_i hm
    subst hm
    split at ak
    ·rename_i e he
     simp only[Option.some.injEq]at ak;subst ak
     have dk:=bb.c7 id _ ah
     cases dk with
     |ga _ _ _ aa=>
      obtain⟨a,cap,hc,af⟩:=aa.elem he;exact⟨a,es.length,cap,by rw[aJ _ _ _ _ ah,hc],(List.getElem?_eq_some_iff.1 he).1,.av _ _ af⟩
    ·cases ak
   ·cases ak
  ·cases ak
 |_=>simp[mq]at ak
theorem Q5(t:TypeId)(x i:Operand)(an:o.op= .indexAddr t x i){n:Nat}(aI:kc P t=some n){k:IntKind}{j:Nat}(hi:aL G s i= .av (.v (.int k (j:Int)))){p:aD}(ak:mq s.heap n j (aL G s x)=some p):
 cN P G o s p:=
 fun _ a w β ro af=>by
  obtain⟨cY,len,cap,hc,ag,dB⟩:=Q4 af.heap (af.eval x) ak;obtain⟨e,hu,bP⟩:=zy aI;refine⟨_,?_,dB⟩
  have rv:(0:Int)≤j∧(j:Int)<len:=⟨by omega,by omega⟩
  simp[execOp,an,hc,af.ec hi,Instr.indexAt,asIntOf,run_underlying hu,ag,bP]
def uF(P:Program)(t:TypeId):Option (Nat × Nat):=
 match P.underlying t with
 |some (.array n e)=>(P.info? e).map fun i=>(n,i.size)
 |_=>none
theorem JT(t:TypeId)(x i:Operand)(an:o.op= .indexAddr t x i){len n:Nat}(aI:uF P t=some (len,n)){k:IntKind}{j:Nat}(hi:aL G s i= .av (.v (.int k (j:Int))))(ag:j<len)
 {cs:List aD}(dI:fl s.heap (aL G s x)=some cs){p:aD}(ak:iK (j*n) (aL G s x)=some p):
 cN P G o s p:=
 fun _ a w β ro af=>by
  obtain⟨cY,hc,dB⟩:=Qq ak dI (af.eval x);unfold uF at aI
  split at aI
  ·rename_i m e hu
   cases uG:P.info? e with
   |none=>simp[uG]at aI
   |some zcu=>
    simp[uG]at aI;obtain⟨rfl,rfl⟩:=aI;refine⟨_,?_,dB⟩
    simp[execOp,an,hc,af.ec hi,Instr.indexAt,asIntOf,run_underlying hu,Instr.sureAddr,ag,sizeOf,typeInfo,uG]
  ·cases aI
theorem Q6(t:TypeId)(x i:Operand)(an:o.op= .index t x i)(aI:P.underlying t=some .string){k:IntKind}{j:Nat}(hi:aL G s i= .av (.v (.int k (j:Int)))){b:ByteArray}(hx:aL G s x= .av (.v (.string b)))
 {u:UInt8}(hu:b.data.toList[j]? =some u):cN P G o s (.av (.v (.int .u8 (u.toNat:Int)))):=
 fun _ a w β ro af=>by
  have ag:b[j]? =some u:=by
   have aa:j<b.size:=by have:=(List.getElem?_eq_some_iff.1 hu).1;simpa using this
   rw[ByteArray.getElem?_lt' b j aa]
   rw[List.getElem?_eq_some_iff]at hu
   obtain⟨_,ae⟩:=hu;simp only[Option.some.injEq];rw[←ae];rfl
  exact⟨_,by simp[execOp,an,af.ec hx,af.ec hi,Instr.index,asIntOf,run_underlying aI,ag],.fz rfl⟩
def wI(P:Program)(t:TypeId)(f:Nat):Option (Nat × Option Nat):=
 match P.underlying t with
 |some (.struct fs)=>match fs[f]? with
  |some fd=>if scalar P fd.type then some (fd.offset,none)else match mi P fd.type with
   |some n=>some (fd.offset,some n)
   |none=>none
  |none=>none
 |_=>none
theorem Q7(t:TypeId)(x:Operand)(f:Nat)(an:o.op= .field t x f){off:Nat}(aI:wI P t f=some (off,none)){cs:List aD}(hx:aL G s x= .agg cs){v:aD}(aw:cs[off]? =some v):
 cN P G o s v:=
 fun _ a w β ro af=>by
  have h:=af.eval x
  rw[hx]at h;generalize he:a.eval x=c at h
  cases h with
  |agg _ c ai hc=>
   have bI:off<c.size:=by have:=(List.getElem?_eq_some_iff.1 aw).1;omega
   unfold wI at aI
   split at aI
   ·rename_i fs hu
    split at aI
    ·rename_i fd hf
     split at aI
     ·rename_i hsc
      simp only[Option.some.injEq,Prod.mk.injEq,and_true]at aI;subst aI;refine⟨c[fd.offset],?_,by simpa[bI]using hc _ v aw⟩
      simp[execOp,an,he,Instr.field,run_underlying hu,hf,asAgg,part,zh hsc,bI]
     ·split at aI
      ·simp at aI
      ·cases aI
    ·cases aI
   ·cases aI
theorem Q8(t:TypeId)(x:Operand)(f:Nat)(an:o.op= .field t x f){off n:Nat}(aI:wI P t f=some (off,some n)){cs:List aD}(hx:aL G s x= .agg cs)(hn:off+n≤cs.length):
 cN P G o s (.agg ((cs.drop off).take n)):=
 fun _ a w β ro af=>by
  have h:=af.eval x
  rw[hx]at h;generalize he:a.eval x=c at h
  cases h with
  |agg _ c ai hc=>
   unfold wI at aI
   split at aI
   ·rename_i fs hu
    split at aI
    ·rename_i fd hf
     split at aI
     ·simp at aI
     ·split at aI
      ·rename_i m bS
       simp only[Option.some.injEq,Prod.mk.injEq]at aI;obtain⟨rfl,rfl⟩:=aI;obtain⟨g1,g2⟩:=CV bS w;refine⟨.agg (c.extract fd.offset (fd.offset+m)),?_,.agg _ _ (by simp;omega) fun j y ag=>?_⟩
       ·simp[execOp,an,he,Instr.field,run_underlying hu,hf,asAgg,part,g1,g2]
       ·rw[List.getElem?_take]at ag
        split at ag
        ·rename_i Q9
         rw[List.getElem?_drop]at ag
         have:=hc _ y ag
         have aa:fd.offset+j<c.size:=by omega
         have ae:j<(c.extract fd.offset (fd.offset+m)).size:=by simp;omega
         simp only[Array.getD,ae,dif_pos];simpa[aa]using this
        ·cases ag
      ·cases aI
    ·cases aI
   ·cases aI
def places(P:Program)(t:TypeId):Option (Nat→Option (Nat × Nat)):=
 match P.underlying t with
 |some (.struct fs)=>if fs.toList.all fun f=>(P.info? f.type).isSome then some fun i=>(fs.toList.map fun f=>(f.offset,((P.info? f.type).map (·.size)).getD 0))[i]? else none
 |some (.array _ e)=>match P.info? e with
  |some inf=>some fun i=>some (i*inf.size,inf.size)
  |none=>none
 |_=>none
def kd(place:Nat→Option (Nat × Nat)):List aD→List (Nat × aD)→Option (List aD)
 |cs,[]=>some cs
 |cs,(i,v)::rest=>match place i with
  |some (off,size)=>if(cR v).length=size∧off+size≤cs.length then kd place (ei cs off (cR v)) rest else none
  |none=>none
theorem Ra(off:Nat): ∀(vs:List Value) (k:Nat) (cs:Array Value),off+k+vs.length≤cs.size→
 ((vs.zipIdx k).foldl (fun(cs:Array Value) (x:Value × Nat)=>cs.setIfInBounds (off+x.2) x.1) cs).toList=ei cs.toList (off+k) vs
 |[],k,cs,h=>by simp[ei]
 |v::vs,k,cs,h=>by
  simp only[List.zipIdx_cons,List.foldl_cons];rw[Ra off vs (k+1) (cs.setIfInBounds (off+k) v) (by simp at h⊢;omega)]
  have e:=list_seg_step cs.toList (off+k) v vs (by simp at h⊢;omega)
  simp only[ei,Array.toList_setIfInBounds,←Nat.add_assoc]at*;simp only[List.append_assoc]at e;rw[e];simp[Nat.add_assoc]
theorem C8{place place':Nat→Option (Nat × Nat)}(ry: ∀i p,place i=some p→place' i=some p){w:World}{ro:Nat→Prop}{σ:Heap}{β:Nat→Value}{N:Nat}(bb:hb w ro σ β N):
    ∀{ps:List (Nat × aD)} {qs:List (Nat × Value)} {cs ds:List aD} {xs:Array Value},kd place cs ps=some ds→ps.map (·.1)=qs.map (·.1)→(∀(j:Nat) (p:Nat × aD) (q:Nat × Value),ps[j]? =some p→qs[j]? =some q→bs w ro σ β N p.2 q.2∧(cR p.2).all (eE σ)=true)→
    xs.size=cs.length→(∀j x,cs[j]? =some x→bs w ro σ β N x (xs.getD j undef))→
    ∃ys,Instr.fill place' xs qs=some ys∧ys.size=ds.length∧∀j x,ds[j]? =some x→bs w ro σ β N x (ys.getD j undef)
  |[],qs,cs,ds,xs,hf,aj,_,ai,hx=>by
    simp[kd]at hf;subst hf
    have:qs=[]:=by cases qs with
      |nil=>rfl
      |cons=>simp at aj
    subst this;exact⟨xs,by simp[Instr.fill],ai,hx⟩
  |(i,v)::ps,[],cs,ds,xs,hf,aj,_,ai,hx=>by simp at aj
  |(i,v)::ps,(zz,u)::qs,cs,ds,xs,hf,aj,af,ai,hx=>by
    simp only[List.map_cons,List.cons.injEq]at aj;obtain⟨rfl,aj⟩:=aj;simp only[kd]at hf
    split at hf
    · rename_i off size ak
      split at hf
      · rename_i hc
        obtain⟨C9,JU⟩:=hc
        have dB:bs w ro σ β N v u:=(af 0 (i,v) (i,u) rfl rfl).1
        have dZ:(cR v).all (eE σ)=true:=(af 0 (i,v) (i,u) rfl rfl).2
        obtain⟨g1,g2,_⟩:=dB.cR dZ bb
        have Rb:=Ra off u.cells.toList 0 xs (by simp;omega)
        simp only[Nat.add_zero]at Rb
        have a1:=C8 ry bb (ps:=ps) (qs:=qs) (cs:=ei cs off (cR v)) (ds:=ds) (xs:=(ei xs.toList off u.cells.toList).toArray) hf aj (fun j p q aa ae=>af (j+1) p q aa ae)
          (by rw[List.size_toArray,qe _ _ _ (by simp;omega),qe _ _ _ (by omega)];simpa using ai) (fun j x ag=>by
            have:=JA (bs w ro σ β N) undef (cs:=cs) (vs:=cR v) (xs:=xs.toList) (ys:=u.cells.toList) (off:=off) (by simp;omega) (by simp;omega) (by omega)
              (fun j x ag=>by have:=hx j x ag;simpa[Array.getD_eq_getD_getElem?,List.getD]using this) (fun j x ag=>by have:=g2 j x ag;simpa[Array.getD_eq_getD_getElem?,List.getD]using this) j x ag
            simpa[Array.getD_eq_getD_getElem?,List.getD]using this)
        obtain⟨ys,aa,ae,au⟩:=a1;refine⟨ys,?_,ae,au⟩
        rw[Instr.fill.eq_2,ry _ _ ak];simp only;rw[if_neg (by simp;omega)]
        have zcv:Array.foldl (fun cs x=>match x with
            |(c,j)=>cs.setIfInBounds (off+j) c) xs u.cells.zipIdx=(ei xs.toList off u.cells.toList).toArray:=by
          apply Array.ext';rw[←Rb,←Array.foldl_toList];simp
        rw[zcv];exact aa
      · cases hf
    · cases hf
theorem run_places(w:World): ∀l:List Field,(l.all fun f=>(P.info? f.type).isSome)=true→(l.mapM (fun f=>do
    let n ←sizeOf f.type
    pure (f.offset,n):Field→Sem (Nat × Nat))).run P w= .ok (l.map fun f=>(f.offset,((P.info? f.type).map (·.size)).getD 0)) w
  |[],_=>by simp
  |f::r,h=>by
    simp only[List.all_cons,Bool.and_eq_true]at h
    have a1:=run_places w r h.2
    cases hi:P.info? f.type with
    |none=>simp[hi]at h
    |some inf=>
      have aa:(sizeOf f.type).run P w= .ok inf.size w:=by simp[sizeOf,typeInfo,hi]
      simp only[List.mapM_cons,Sem.run_bind,aa,Result.andThen_ok,Sem.run_pure,a1];simp[hi]
theorem run_build{t:TypeId}{pl:Nat→Option (Nat × Nat)}(ak:places P t=some pl){zs:List Value}(aQ:zeroCells P t=some zs){parts:Array (Nat × Value)}{ys:Array Value}(hf:Instr.fill pl zs.toArray parts.toList=some ys)(w:World):
    (Instr.build t parts).run P w= .ok (.agg ys) w:=by
  obtain⟨z,kb,oY,_⟩:=zn aQ w;unfold places at ak
  split at ak
  · rename_i fs hu
    split at ak
    · rename_i dZ
      simp only[Option.some.injEq]at ak;subst ak
      have aa:=run_places w fs.toList dZ
      have ae:(fs.mapM (fun f=>do
          let n ←sizeOf f.type
          pure (f.offset,n):Field→Sem (Nat × Nat))).run P w= .ok (fs.toList.map fun f=>(f.offset,((P.info? f.type).map (·.size)).getD 0)).toArray w:=by
        rw[Array.mapM_eq_mapM_toList];simp only[Sem.run_map,aa];rfl
      simp only[Instr.build,Sem.run_bind,kb,Result.andThen_ok,run_underlying hu,ae,oY]
      have au:(fun(x:Nat)=>(fs.toList.map fun f=>(f.offset,((P.info? f.type).map (·.size)).getD 0)).toArray[x]?)=(fun(i:Nat)=>(fs.toList.map fun f=>(f.offset,((P.info? f.type).map (·.size)).getD 0))[i]?):=by
        funext i;simp
      rw[au,hf];rfl
    · cases ak
  · rename_i n e hu
    split at ak
    · rename_i inf hi
      simp only[Option.some.injEq]at ak;subst ak
      have aa:(sizeOf e).run P w= .ok inf.size w:=by simp[sizeOf,typeInfo,hi]
      simp only[Instr.build,Sem.run_bind,kb,Result.andThen_ok,run_underlying hu,aa,oY,hf];rfl
    · cases ak
  · cases ak
theorem JV{w:World}{ro:Nat→Prop}{σ:Heap}{β:Nat→Value}{N:Nat}{zs:List Value}(dZ:zs.all Value.oneCell'=true): ∀(j:Nat) (x:aD),(zs.map fun z=>aD.av (.v z))[j]? =some x→bs w ro σ β N x (zs.toArray.getD j undef):=by
 intro j x ag
 rw[List.getElem?_map]at ag
 cases ri:zs[j]? with
 |none=>simp[ri]at ag
 |some y=>
  simp[ri]at ag;subst ag
  have:y.oneCell'=true:=by
   rw[List.all_eq_true]at dZ;exact dZ y (List.mem_of_getElem? ri)
  simpa[ri]using bs.av (w:=w) (ro:=ro) (σ:=σ) (β:=β) (N:=N) _ _ (.v y this)
theorem JW{E:Entry}{a:Act}{w:World}{β:Nat→Value}{ro:Nat→Prop}(af:c5 E G s a w β ro){parts:Array (Nat × Operand)}{ps:List (Nat × aD)}(rz:parts.toList.map (fun p=>(p.1,aL G s p.2))=ps)
 (dZ:ps.all (fun p=>(cR p.2).all (eE s.heap))=true):
 ps.map (·.1)=(parts.map fun p=>(p.1,a.eval p.2)).toList.map (·.1)∧
 ∀(j:Nat) (p:Nat × aD) (q:Nat × Value),ps[j]? =some p→(parts.map fun p=>(p.1,a.eval p.2)).toList[j]? =some q→bs w ro s.heap β s.next p.2 q.2∧(cR p.2).all (eE s.heap)=true:=by
 subst rz
 refine⟨by simp,fun j p q aa ae=>?_⟩
 have ak:(cR p.2).all (eE s.heap)=true:=by
  rw[List.all_eq_true]at dZ;exact dZ p (List.mem_of_getElem? aa)
 rw[List.getElem?_map]at aa
 rw[Array.toList_map,List.getElem?_map]at ae
 cases ag:parts.toList[j]? with
 |none=>simp[ag]at aa
 |some y=>
  simp[ag]at aa ae;subst aa ae;exact⟨af.eval _,ak⟩
theorem Rc(t:TypeId)(parts:Array (Nat × Operand))(an:o.op= .build t parts){pl:Nat→Option (Nat × Nat)}(ak:places P t=some pl){zs:List Value}(aQ:zeroCells P t=some zs)(sK:zs.all Value.oneCell'=true)
 {ps:List (Nat × aD)}(rz:parts.toList.map (fun p=>(p.1,aL G s p.2))=ps)(dZ:ps.all (fun p=>(cR p.2).all (eE s.heap))=true){ds:List aD}(hf:kd pl (zs.map fun z=>.av (.v z)) ps=some ds):
 cN P G o s (.agg ds):=
 fun _ a w β ro af=>by
  obtain⟨aa,ae⟩:=JW af rz dZ;obtain⟨ys,g1,g2,g3⟩:=C8 (place':=pl) (fun _ _ h=>h) af.heap hf aa ae (xs:=zs.toArray) (by simp) (JV sK)
  refine⟨.agg ys,?_,.agg _ _ g2 g3⟩
  have ad:=run_build (P:=P) ak aQ g1 w
  simp only[execOp,an,Sem.run_bind]
  erw [ad]
  rfl
end
end Go.aM
namespace Go.aM
open Go
mutual
def dX(id:Nat):aD→aD
 | .av x=>.av x
 | .agg cs=>.agg (ed id cs)
 | .tuple cs=>.tuple (ed id cs)
 | .ptr k off=>if k=id then .top else .ptr k off
 | .dA k off=>if k=id then .top else .dA k off
 | .cW k i off=>if k=id then .top else .cW k i off
 | .aO k=>if k=id then .top else .aO k
 | .fn f p q=>.fn f (ed id p) (ed id q)
 | .ref k=>if k=id then .top else .ref k
 | .top=>.top
def ed(id:Nat):List aD→List aD
 |[]=>[]
 |x::r=>dX id x::ed id r
end
def du(id:Nat):Heap→Heap
 |[]=>[]
 |(k,.box t cs)::r=>if k=id then du id r else(k,.box t (ed id cs))::du id r
 |(k,.row z t n es)::r=>if k=id then du id r else(k,.row z t n es)::du id r
 |(k,.bM bN)::r=>if k=id then du id r else(k,.bM bN)::du id r
def eu(id:Nat):eh→eh
 | .box t cs=>.box t (ed id cs)
 | .row z t n es=>.row z t n es
 | .bM bN=>.bM bN
theorem h4(d:Nat): ∀(l:List aD),(ed d l).length=l.length
 |[]=>rfl
 |x::r=>by simp[ed,h4 d r]
theorem hP(d:Nat): ∀{l:List aD} {j:Nat} {x:aD},(ed d l)[j]? =some x→∃y,l[j]? =some y∧x=dX d y
 |[],j,x,h=>by simp[ed]at h
 |y::r,j,x,h=>by
  cases j with
  |zero=>simp[ed]at h;exact⟨y,by simp,h.symm⟩
  |succ j=>simp[ed]at h;simpa using hP d h
theorem qk(id:Nat): ∀(σ:Heap) (k:Nat),aE (du id σ) k=if k=id then none else(aE σ k).map (eu id)
 |[],k=>by simp[du,aE]
 |(j,.box t cs)::r,k=>by
  have a1:=qk id r k
  by_cases ag:j=id
  ·subst ag
   by_cases aj:k=j
   ·subst aj;simpa[du]using a1
   ·simp[du,aE,a1,aj,Ne.symm aj]
  ·by_cases aj:j=k
   ·subst aj;simp[du,aE,ag,eu]
   ·simp[du,aE,ag,aj,a1]
 |(j,.row z t n es)::r,k=>by
  have a1:=qk id r k
  by_cases ag:j=id
  ·subst ag
   by_cases aj:k=j
   ·subst aj;simpa[du]using a1
   ·simp[du,aE,a1,aj,Ne.symm aj]
  ·by_cases aj:j=k
   ·subst aj;simp[du,aE,ag,eu]
   ·simp[du,aE,ag,aj,a1]
 |(j,.bM bN)::r,k=>by
  have a1:=qk id r k
  by_cases ag:j=id
  ·subst ag
   by_cases aj:k=j
   ·subst aj;simpa[du]using a1
   ·simp[du,aE,a1,aj,Ne.symm aj]
  ·by_cases aj:j=k
   ·subst aj;simp[du,aE,ag,eu]
   ·simp[du,aE,ag,aj,a1]
theorem jq(id:Nat)(o:eh):(eu id o).live=o.live:=by cases o<;>rfl
section
variable {P:Program} {G:a8} {s:aP} {E:Entry} {a:Act} {w w':World} {β:Nat→Value} {ro:Nat→Prop}
theorem c5.renew(h:c5 E G s a w β ro)(id:Nat)(ad:s.base≤id)(bI:id<s.next){t0:TypeId}{n0:Nat}{zA:List (List a6)}(bd:aE s.heap id=some (.row false t0 n0 zA))(o:eh)(val:Value)
 (oV:w'.os=w.os)(oW:w'.tape=w.tape)(kE:w'.output=w.output)(bP:w.heap.size≤w'.heap.size)(hw: ∀b,b<w.heap.size→b4 (β id)≠some b→w'.heap[b]? =w.heap[b]?)
 (gH: ∀b,b4 val=some b→b4 (β id)=some b∨w.heap.size≤b)(_hlive:o.live=true)
 (dk:k1 w' ro ((id,o)::du id s.heap) (gS β id val) s.next id o):
 c5 E G ⟨ed id s.cQ,(id,o)::du id s.heap,s.next,s.base⟩ a w' (gS β id val) ro:=by
 have cc: ∀b,ro b→w'.heap[b]? =w.heap[b]? :=fun b af=>hw b (h.heap.lt b af) fun ad=>h.heap.ff b af ⟨id,_,bd,rfl,ad⟩
 have ah: ∀k,k≠id→aE ((id,o)::du id s.heap) k=(aE s.heap k).map (eu id):=fun k aj=>by simp[aE,Ne.symm aj,qk,aj]
 have uB:aE ((id,o)::du id s.heap) id=some o:=by simp[aE]
 have key: ∀x c,bs w ro s.heap β s.next x c→bs w' ro ((id,o)::du id s.heap) (gS β id val) s.next (dX id x) c:=by
  intro x c hx
  induction hx with
  |av x c hx=>exact .av x c (hx.keep cc fun _ h=>h)
  |agg cs c ai _ a1=>
   refine .agg _ c (by rw[h4];exact ai) fun j x ag=>?_
   obtain⟨y,ax,rfl⟩:=hP id ag;exact a1 j y ax
  |tuple cs c ai _ a1=>
   refine .tuple _ c (by rw[h4];exact ai) fun j x ag=>?_
   obtain⟨y,ax,rfl⟩:=hP id ag;exact a1 j y ax
  |ptr k off c ar ak=>
   simp only[dX]
   split
   ·exact .top _
   ·rename_i aj
    refine .ptr k off c ar fun t cs bo=>?_
    rw[c2 _ _ aj];rw[ah k aj]at bo
    cases ai:aE s.heap k with
    |none=>simp[ai]at bo
    |some p=>
     cases p with
     |box bz cs'=>exact ak bz cs' ai
     |row=>simp[ai,eu]at bo
     |bM=>simp[ai,eu]at bo
  |dA k off c ar ak=>
   simp only[dX]
   split
   ·exact .top _
   ·rename_i aj
    refine .dA k off c ar fun t cs bo=>?_
    rw[c2 _ _ aj];rw[ah k aj]at bo
    cases ai:aE s.heap k with
    |none=>simp[ai]at bo
    |some p=>
     cases p with
     |box bz cs'=>exact ak bz cs' ai
     |row=>simp[ai,eu]at bo
     |bM=>simp[ai,eu]at bo
  |cW k i off c ar ak=>
   simp only[dX]
   split
   ·exact .top _
   ·rename_i aj
    refine .cW k i off c ar fun z t n es bo=>?_
    rw[c2 _ _ aj];rw[ah k aj]at bo
    cases ai:aE s.heap k with
    |none=>simp[ai]at bo
    |some p=>
     cases p with
     |box bz cs'=>simp[ai,eu]at bo
     |bM=>simp[ai,eu]at bo
     |row iv bz cJ dP=>
      simp only[ai,Option.map_some,eu,Option.some.injEq,eh.row.injEq]at bo;obtain⟨rfl,rfl,rfl,rfl⟩:=bo;exact ak _ _ _ _ ai
  |aO k c ar ak=>
   simp only[dX]
   split
   ·exact .top _
   ·rename_i aj
    refine .aO k c ar fun z t n es bo=>?_
    rw[c2 _ _ aj];rw[ah k aj]at bo
    cases ai:aE s.heap k with
    |none=>simp[ai]at bo
    |some p=>
     cases p with
     |box bz cs'=>simp[ai,eu]at bo
     |bM=>simp[ai,eu]at bo
     |row iv bz cJ dP=>exact ak _ _ _ _ ai
  |fn f p q c d aa ae _ _ hh hj=>
   refine .fn f _ _ c d (by rw[h4];exact aa) (by rw[h4];exact ae) (fun j x ag=>?_) (fun j x ag=>?_)
   ·obtain⟨y,ax,rfl⟩:=hP id ag
    exact hh j y ax
   ·obtain⟨y,ax,rfl⟩:=hP id ag
    exact hj j y ax
  |ref k c ar ak=>
   simp only[dX]
   split
   ·exact .top _
   ·rename_i aj
    refine .ref k c ar fun bN bo=>?_
    rw[c2 _ _ aj];rw[ah k aj]at bo
    cases ai:aE s.heap k with
    |none=>simp[ai]at bo
    |some p=>
     cases p with
     |box=>simp[ai,eu]at bo
     |row=>simp[ai,eu]at bo
     |bM lE=>exact ak lE ai
  |top c=>exact .top c
 have dK: ∀k p,k≠id→aE ((id,o)::du id s.heap) k=some p→∃q,aE s.heap k=some q∧p=eu id q:=by
  intro k p aj bo;rw[ah k aj]at bo
  cases ai:aE s.heap k with
  |none=>simp[ai]at bo
  |some q=>simp[ai]at bo;exact⟨q,rfl,bo.symm⟩
 refine⟨h.defers,by simpa[h4]using h.size,fun i x hx=>?_,⟨fun k p aj=>?_,fun k bk p fV b aj eA ak gI bg er=>?_,fun b af=>?_,fun b af=>Nat.lt_of_lt_of_le (h.heap.lt b af) bP⟩,
  h.ic.keep cc fun _ h=>h,?_,h.base⟩
 ·obtain⟨y,ax,rfl⟩:=hP id hx
  exact key _ _ (h.slot i y ax)
 ·by_cases bu:k=id
  ·subst bu
   rw[uB]at aj;simp only[Option.some.injEq]at aj;subst aj;exact dk
  ·obtain⟨q,aJ,rfl⟩:=dK k p bu aj
   have gJ:=h.heap.c7 k q aJ
   have b5:q.live=true→∀b,b4 (β k)=some b→w'.heap[b]? =w.heap[b]? :=fun ar b bg=>
    hw b (gJ.hJ ar bg) fun jQ=>bu (h.heap.inj k id q _ b aJ bd ar rfl bg jQ)
   cases gJ with
   |box t cs b arr aa ae au aR=>
    refine .box t _ b arr (by rw[c2 _ _ bu];exact aa) ((b5 rfl b (by rw[aa];rfl)).trans ae) (by rw[h4];exact au) fun j x ag=>?_
    obtain⟨y,ax,rfl⟩:=hP id ag;exact key _ _ (aR j y ax)
   |row t n es xs aa ae au=>exact .row t n es xs (by rw[c2 _ _ bu];exact aa.keep (fun b ad=>b5 rfl b ad) bP) ae fun j x ag=>(au j x ag).keep cc fun _ h=>h
   |ga t n es aa=>exact .ga t n es (by rw[c2 _ _ bu];exact aa.keep cc fun _ h=>h)
   |bM bN b o aa ae au=>exact .bM bN b o (by rw[c2 _ _ bu];exact aa) ((b5 rfl b aa).trans ae) (by rw[c2 _ _ bu];exact bN.mono _ _ _ _ (fun x c h=>h.keep cc fun _ h=>h) au)
 ·by_cases bu:k=id
  ·by_cases gK:bk=id
   ·rw[bu,gK]
   ·subst bu
    rw[dR]at bg;rw[c2 _ _ gK]at er;obtain⟨q,aJ,rfl⟩:=dK bk fV gK eA;rw[jq]at gI
    have ae:=(h.heap.c7 bk q aJ).hJ gI er
    rcases gH b bg with aa|aa
    ·exact(h.heap.inj bk k q _ b aJ bd gI rfl er aa).symm
    ·omega
  ·obtain⟨q,aJ,rfl⟩:=dK k p bu aj
   rw[jq]at ak;rw[c2 _ _ bu]at bg
   by_cases gK:bk=id
   ·subst gK
    rw[dR]at er
    have ae:=(h.heap.c7 k q aJ).hJ ak bg
    rcases gH b er with aa|aa
    ·exact h.heap.inj k bk q _ b aJ bd ak rfl bg aa
    ·omega
   ·obtain⟨q',uC,rfl⟩:=dK bk fV gK eA
    rw[jq]at gI;rw[c2 _ _ gK]at er;exact h.heap.inj k bk q q' b aJ uC ak gI bg er
 ·rintro⟨k,p,aj,ak,bg⟩
  by_cases bu:k=id
  ·subst bu
   rw[dR]at bg
   rcases gH b bg with aa|aa
   ·exact h.heap.ff b af ⟨k,_,bd,rfl,aa⟩
   ·have:=h.heap.lt b af;omega
  ·obtain⟨q,aJ,rfl⟩:=dK k p bu aj
   rw[jq]at ak;rw[c2 _ _ bu]at bg;exact h.heap.ff b af ⟨k,q,aJ,ak,bg⟩
 ·have t:=h.trans
  refine⟨oV.trans t.os,oW.trans t.tape,kE.trans t.output,Nat.le_trans t.size bP,fun b hL gd=>?_,t.jk,t.j7,?_,fun k aj p bo=>?_,fun k p bo=>?_,t.le⟩
  ·by_cases jQ:b4 (β id)=some b
   ·rcases t.hg b ⟨id,_,bd,rfl,jQ⟩with hc|hc
    ·exact absurd hc gd
    ·omega
   ·rw[hw b (Nat.lt_of_lt_of_le hL t.size) jQ]
    exact t.frame b hL gd
  ·rintro b ⟨k,p,aj,ak,bg⟩
   by_cases bu:k=id
   ·subst bu
    rw[dR]at bg
    rcases gH b bg with aa|aa
    ·exact t.hg b ⟨k,_,bd,rfl,aa⟩
    ·exact .inr (Nat.le_trans t.size aa)
   ·obtain⟨q,aJ,rfl⟩:=dK k p bu aj
    rw[jq]at ak;rw[c2 _ _ bu]at bg;exact t.hg b ⟨k,q,aJ,ak,bg⟩
  ·have bu:k≠id:=by have:=h.base;omega
   obtain⟨q,aJ,rfl⟩:=dK k p bu bo;rw[c2 _ _ bu];exact t.dK k aj q aJ
  ·by_cases bu:k=id
   ·subst bu;exact bI
   ·obtain⟨q,aJ,rfl⟩:=dK k p bu bo
    exact t.new k q aJ
def chunk{α:Type}(n:Nat):Nat→List α→List (List α)
 |0,_=>[]
 |k+1,l=>l.take n::chunk n k (l.drop n)
theorem zB{α:Type}(n:Nat): ∀(k:Nat) (l:List α),(chunk n k l).length=k
 |0,_=>rfl
 |k+1,l=>by simp[chunk,zB n k]
theorem Re{α:Type}(n:Nat): ∀(k:Nat) (l:List α),l.length=k*n→∀e∈chunk n k l,e.length=n
 |0,_,_,e,he=>by simp[chunk]at he
 |k+1,l,h,e,he=>by
  rw[Nat.succ_mul]at h;simp only[chunk,List.mem_cons]at he
  rcases he with rfl|he
  ·simp;omega
  ·exact Re n k (l.drop n) (by simp;omega) e he
theorem Rf{α:Type}(n:Nat): ∀(k:Nat) (l:List α),l.length=k*n→(chunk n k l).flatten=l
 |0,l,h=>by
  have:l=[]:=List.eq_nil_of_length_eq_zero (by simpa using h)
  simp[chunk,this]
 |k+1,l,h=>by
  rw[Nat.succ_mul]at h;simp only[chunk,List.flatten_cons];rw[Rf n k (l.drop n) (by simp;omega),List.take_append_drop]
theorem ib.Da{w:World}{t:TypeId}{n:Nat}{v:Value}{len:Nat}{xs:List Value}(h:w.ownsRow 0 t n v len xs):ib w t n v len xs:=by
 obtain⟨ar,af⟩:=h
 refine⟨ar,?_⟩
 rcases af with⟨aa,ae⟩|⟨g,cap,cur,aw,_,ah,hle,ig,dI,aI⟩
 ·exact .inl ⟨⟨none,aa,fun _ h=>(by cases h)⟩,ae⟩
 ·by_cases hc:cap=0
  ·subst hc
   have:len=0:=by omega
   subst this;exact .inl ⟨⟨_,aw,fun a aY=>(by cases aY;exact(Array.getElem?_eq_some_iff.1 ah).1)⟩,rfl⟩
  ·exact .inr ⟨g,cap,cur,aw,by omega,ah,hle,ig,dI,aI⟩
def wJ(P:Program)(G:a8)(o:Oper)(s:aP)(t:TypeId)(n:Nat)(es:List (List a6)):Prop:=
 (∀e∈es,e.length=n)∧∀E a w β ro,c5 E G s a w β ro→∃v xs w',(execOp a.eval o).run P w= .ok (.value v) w'∧w'.ownsRow 0 t n v es.length xs∧w.grownBy w' none∧(∀b,b4 v=some b→w.heap.size≤b)∧
  ∀j x,es.flatten[j]? =some x→cP w ro x (xs.getD j undef)
theorem dQ.newRow{o:Oper}{t:TypeId}{n:Nat}{es:List (List a6)}(ad:s.base≤s.next)(bb:wJ P G o s t n es):
 dQ P G o s ({s with heap:=(s.next,.row false t n es)::s.heap,next:=s.next+1}.put o.dst (.aO s.next)):=by
 obtain⟨hn,h⟩:=bb
 intro E a w ⟨β,ro,af⟩ K Q hK
 obtain⟨v,xs,w',cp,hA,cS,gH,eW⟩:=h E a w β ro af
 unfold Oper.wp
 rw[cp]
 have jl:aE s.heap s.next=none:=by
  cases ah:aE s.heap s.next with
  |none=>rfl
  |some p=>have:=af.trans.new _ _ ah;omega
 have hw: ∀b,b<w.heap.size→w'.heap[b]? =w.heap[b]? :=fun b ad=>cS.block b ad (by simp)
 have cc: ∀b,ro b→w'.heap[b]? =w.heap[b]? :=fun b ad=>hw b (af.heap.lt b ad)
 have fc:c5 E G {s with heap:=(s.next,.row false t n es)::s.heap,next:=s.next+1} a w' (gS β s.next v) ro:=by
  refine af.new s.next jl ad (Nat.le_refl _) _ v cS.os cS.tape cS.output cS.size hw gH rfl ?_
  exact .row t n es xs (by rw[dR];exact .Da hA) hn fun j x ag=>(eW j x ag).keep cc fun _ h=>h
 refine hK _ _ ⟨_,ro,fc.put o.dst _ _ ?_⟩
 exact .aO _ _ (Nat.lt_succ_self _) fun z bz cJ dP _=>(dR _ _ _).symm
theorem zcw{o:Oper}(t:TypeId)(len:Nat)(parts:Array (Nat × Operand))(an:o.op= .buildSlice t len parts){e n:Nat}(hu:P.underlying t=some (.slice e))(bP:(P.info? e).map (·.size)=some n)
 {zs:List Value}(aQ:zeroCells P e=some zs)(sK:zs.all Value.oneCell'=true)(mr:zs.length=n)(hlen:0<len*n∧len*n≤16777216)
 {ps:List (Nat × aD)}(rz:parts.toList.map (fun p=>(p.1,aL G s p.2))=ps)(dZ:ps.all (fun p=>(cR p.2).all (eE s.heap))=true)
 {ds:List aD}(hf:kd (fun i=>some (i*n,n)) ((List.replicate len (zs.map fun z=>aD.av (.v z))).flatten) ps=some ds){rs:List a6}(gL:iL ds=some rs):
 wJ P G o s e n (chunk n len rs):=by
 have na:ds.length=len*n:=by
  have: ∀(ps:List (Nat × aD)) (cs ds:List aD),kd (fun i=>some (i*n,n)) cs ps=some ds→ds.length=cs.length:=by
   intro ps
   induction ps with
   |nil=>intro cs ds h;simp[kd]at h;rw[h]
   |cons p r a1=>
    intro cs ds h;obtain⟨i,v⟩:=p;simp only[kd]at h
    split at h
    ·rename_i hc
     rw[a1 _ _ h,qe _ _ _ (by omega)]
    ·cases h
  rw[this ps _ _ hf,j8 (n:=n) (fun e he=>by rw[List.mem_replicate]at he;rw[he.2];simpa using mr)]
  simp
 have Rg:rs.length=len*n:=by rw[←na,CX gL];simp
 refine⟨Re n len rs Rg,fun E a w β ro af=>?_⟩
 obtain⟨aa,ae⟩:=JW af rz dZ
 obtain⟨z,kb,oY,_⟩:=zn aQ w
 have eW:(List.replicate len (zs.map fun z=>aD.av (.v z))).flatten.length=len*n:=by
  rw[j8 (n:=n) (fun e he=>by rw[List.mem_replicate]at he;rw[he.2];simpa using mr)];simp
 have zcx:zs.toArray.size=n:=by simpa using mr
 have rA:0<n:=by
  rcases Nat.eq_zero_or_pos n with h|h
  ·rw[h]at hlen;simp at hlen
  ·exact h
 obtain⟨ys,g1,g2,g3⟩:=C8 (place':=fun i=>some (i*n,n)) (fun _ _ h=>h) af.heap hf aa ae (xs:=(Array.range (len*n)).map fun x=>zs.toArray[x%zs.toArray.size]!) (by rw[eW];simp) (fun j x ag=>by
  have cL:j<len*n:=by rw[←eW];exact(List.getElem?_eq_some_iff.1 ag).1
  have hm:j=(j/ n)*n+j%n:=by rw[Nat.mul_comm];exact(Nat.div_add_mod j n).symm
  have nY:j%n<n:=Nat.mod_lt _ rA
  have nZ:j/ n<len:=by rw[Nat.div_lt_iff_lt_mul rA];exact cL
  rw[hm,re (n:=n) (fun e he=>by rw[List.mem_replicate]at he;rw[he.2];simpa using mr) (i:=j/ n) (e:=zs.map fun z=>aD.av (.v z)) (by simp[nZ]) (j%n) nY]at ag
  have:=JV (w:=w) (ro:=ro) (σ:=s.heap) (β:=β) (N:=s.next) sK (j%n) x ag
  have aC:(Array.map (fun x=>zs.toArray[x%zs.toArray.size]!) (Array.range (len*n))).getD j undef=zs.toArray.getD (j%n) undef:=by
   have au:j%n<zs.length:=by omega
   simp[cL,mr,List.getElem?_eq_getElem au]
  rw[aC]
  exact this)
 have mm:ys.toList.length=(chunk n len rs).length*n:=by rw[zB];simpa[na]using g2
 refine⟨.slice (some ⟨w.heap.size,0,none⟩) len len,ys.toList,w.alloc (.cells ys e),?_,?_,World.grownBy_alloc w _ none,fun b bg=>?_,fun j x ag=>?_⟩
 ·have zC:(sizeOf e).run P w= .ok n w:=by
   cases hi:P.info? e with
   |none=>simp[hi]at bP
   |some i=>simp[hi]at bP;simp[sizeOf,typeInfo,hi,bP]
  have b5: ¬len*n>2^24:=by omega
  have jr: ¬len*n=0:=by omega
  simp only[execOp,an,Sem.run_bind,Instr.buildSlice,run_underlying hu,Result.andThen_ok,zC,if_neg b5,if_neg jr,kb,Sem.run_pure,oY]
  erw [g1]
  simp[newRow]
 ·rw[zB]
  exact World.ownsRow_lit w ys len (Nat.zero_le _) (by simp only[maxLen];have:=Nat.le_mul_of_pos_right len rA;omega) (by simpa[na]using g2)
 ·simp only[b4]at bg
  split at bg
  ·cases bg
  ·simp at bg;omega
 ·rw[Rf n len rs Rg]at ag
  have au:=g3 j (.av x) (by rw[CX gL];simp[ag])
  cases au with
  |av _ _ au=>
   have:ys.toList.getD j undef=ys.getD j undef:=by simp[List.getD,Array.getD_eq_getD_getElem?]
   rw[this];exact au
end
end Go.aM
