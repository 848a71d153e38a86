/- The AV calculus, part G: code, loops, the beginning and the end of a call. Conditions: none. -/
import Derived.Test.YtmkpmgfieagphaaGreatDoorQSMf
namespace Go.aK
open Go
def lift(E:Entry)(G:a8)(Q:Exit→aO→Prop):Exit→Act→World→Prop:=fun e a w=>∃s,Q e s∧Rel E G s a w
def b2(P:Program)(G:a8)(c:Code)(Q:Exit→aO→Prop)(s:aO):Prop:=∀E a w,Rel E G s a w→c.wp P (lift E G Q) a w
def cu(P:Program)(G:a8)(ops:Array Oper)(Q:Exit→aO→Prop)(l:List Oper)(s:aO):Prop:=∀E a w,Rel E G s a w→wpList P ops (lift E G Q) l a w
section
variable {P:Program} {G:a8} {Q:Exit→aO→Prop} {s:aO}
theorem b2.region{id:Nat}{l:List Oper}(h:cu P G l.toArray Q l s):b2 P G (.region id l.toArray false) Q s:=fun E a w ag=>wp_region_lit (h E a w ag)
theorem cu.nil{ops:Array Oper}(h:Q .normal s):cu P G ops Q [] s:=fun _ _ _ ag=>wpList_nil ⟨s,h,ag⟩
theorem cu.cons{ops:Array Oper}{o:Oper}{rest:List Oper}{bn:aO}(ah:o.guard=none)(h:dO P G o s bn)(k:cu P G ops Q rest bn):cu P G ops Q (o::rest) s:=
 fun E a w ag=>wpList_plain ah fun _ hK=>h E a w ag _ _ fun bc w' dV=>hK bc w' (k E bc w' dV)
def lY(ops:Array Oper)(j:Nat):Option Nat:=(ops[j]?).bind (·.dst)
theorem II{ops:Array Oper}{E:Entry}{a:Act}{w:World}(ag:Rel E G s a w){j d:Nat}(af:lY ops j=some d){b:Bool}(hd:s.cO[d]? =some (.au (.v (.bool b)))):yielded ops a.tmps j=some b:=by
 obtain⟨β,ro,h⟩:=ag
 have ai:=bp.val (h.slot d _ hd)
 have bI:d<a.tmps.size:=by rw[h.size];exact(List.getElem?_eq_some_iff.1 hd).1
 unfold lY at af
 unfold yielded
 rw[af]
 simp only[Option.bind_some]
 simp[bI]at ai
 simp[bI,ai]
theorem P4{ops:Array Oper}{E:Entry}{a:Act}{w:World}(ag:Rel E G s a w){j d:Nat}(af:lY ops j=some d){cs:List aC}(hd:s.cO[d]? =some (.tuple cs)):yielded ops a.tmps j=none:=by
 obtain⟨β,ro,h⟩:=ag
 have ai:=h.slot d _ hd
 have bI:d<a.tmps.size:=by rw[h.size];exact(List.getElem?_eq_some_iff.1 hd).1
 unfold lY at af
 unfold yielded
 rw[af]
 simp only[Option.bind_some]
 simp[bI]at ai
 generalize a.tmps[d]=c at ai
 have aJ:a.tmps[d]? =some a.tmps[d]:=by simp[bI]
 have ai:=h.slot d _ hd
 simp[bI]at ai
 cases eW:a.tmps[d]with
 |tuple x=>simp[aJ,eW]
 |_=>rw[eW]at ai;cases ai
theorem cu.guarded{ops:Array Oper}{o:Oper}{rest:List Oper}{bn:aO}{j d:Nat}{b:Bool}(ah:o.guard=some (j,b))(af:lY ops j=some d)(hd:s.cO[d]? =some (.au (.v (.bool b))))
 (h:dO P G o s bn)(k:cu P G ops Q rest bn):cu P G ops Q (o::rest) s:=
 fun E a w ag=>wpList_step fun _ hK=>by
  have ax:=II ag af hd
  simp only[Region.wanted,ah,ax,beq_self_eq_true,if_true];exact h E a w ag _ _ fun bc w' dV=>hK bc w' (k E bc w' dV)
theorem Rel.Cc{E:Entry}{a:Act}{w:World}(ag:Rel E G s a w)(dst:Option Nat):Rel E G (s.put dst (.tuple [])) (a.put dst undef) w:=by
 obtain⟨β,ro,h⟩:=ag
 exact⟨β,ro,h.put dst _ _ (.tuple _ _ rfl (by simp))⟩
theorem cu.zbL{ops:Array Oper}{o:Oper}{rest:List Oper}{j d:Nat}{b:Bool}(ah:o.guard=some (j,b))(af:lY ops j=some d)(hd:s.cO[d]? =some (.au (.v (.bool (!b)))))
 (k:cu P G ops Q rest (s.put o.dst (.tuple []))):cu P G ops Q (o::rest) s:=
 fun E a w ag=>by
  have ax:=II ag af hd
  refine wpList_skip ?_ (k E _ w (ag.Cc o.dst))
  simp only[Region.wanted,ah,ax]
  cases b<;>rfl
theorem cu.zbM{ops:Array Oper}{o:Oper}{rest:List Oper}{j d:Nat}{b:Bool}(ah:o.guard=some (j,b))(af:lY ops j=some d){cs:List aC}(hd:s.cO[d]? =some (.tuple cs))
 (k:cu P G ops Q rest (s.put o.dst (.tuple []))):cu P G ops Q (o::rest) s:=
 fun E a w ag=>by
  have ax:=P4 ag af hd
  refine wpList_skip ?_ (k E _ w (ag.Cc o.dst))
  simp only[Region.wanted,ah,ax]
  cases b<;>rfl
def zbN(P:Program)(G:a8)(c:Code)(Q:Exit→aO→Prop):Exit→aO→Prop
 | .normal,s=>b2 P G c Q s
 |e,s=>Q e s
theorem b2.seq{x y:Code}(h:b2 P G x (zbN P G y Q) s):b2 P G (.seq x y) Q s:=fun E a w ag=>by
 refine wp_seq (wp_mono (h E a w ag) fun e bc w' aJ=>?_)
 obtain⟨bn,aa,ae⟩:=aJ
 cases e with
 |normal=>exact aa E bc w' ae
 |_=>exact⟨bn,aa,ae⟩
theorem b2.cond{x:Operand}{c d:Code}{b:Bool}(hx:aI G s x= .au (.v (.bool b)))(aH:b=true→b2 P G c Q s)(hf:b=false→b2 P G d Q s):b2 P G (.cond x c d) Q s:=fun E a w ag=>by
 obtain⟨β,ro,h⟩:=ag
 exact wp_cond_split (h.ec hx) (fun e=>aH e E a w ⟨β,ro,h⟩) (fun e=>hf e E a w ⟨β,ro,h⟩)
theorem b2.P5{x:Operand}{c d:Code}(hx:aI G s x= .au (.v (.bool true)))(aH:b2 P G c Q s):b2 P G (.cond x c d) Q s:=b2.cond hx (fun _=>aH) (fun h=>by cases h)
theorem b2.P6{x:Operand}{c d:Code}(hx:aI G s x= .au (.v (.bool false)))(hf:b2 P G d Q s):b2 P G (.cond x c d) Q s:=b2.cond hx (fun h=>by cases h) (fun _=>hf)
theorem b2.skip(h:Q .normal s):b2 P G .skip Q s:=fun _ _ _ ag=>wp_skip ⟨s,h,ag⟩
theorem b2.ret(h:Q .ret s):b2 P G .ret Q s:=fun _ _ _ ag=>wp_ret ⟨s,h,ag⟩
theorem b2.exit{id:Nat}(h:Q (.exit id) s):b2 P G (.exit id) Q s:=fun _ _ _ ag=>wp_exit ⟨s,h,ag⟩
theorem b2.mono{c:Code}{Q':Exit→aO→Prop}(h:b2 P G c Q s)(aJ: ∀e s,Q e s→Q' e s):b2 P G c Q' s:=fun E a w ag=>
 wp_mono (h E a w ag) fun e _ _ ⟨bn,aa,ae⟩=>⟨bn,aJ e bn aa,ae⟩
def P7(id:Nat)(Q:Exit→aO→Prop):Exit→aO→Prop
 | .exit gp,s=>bif Nat.beq gp id then Q .normal s else Q (.exit gp) s
 |e,s=>Q e s
theorem b2.block{id:Nat}{c:Code}(h:b2 P G c (P7 id Q) s):b2 P G (.block id c) Q s:=fun E a w ag=>by
 refine wp_block (wp_mono (h E a w ag) fun e bc w' aJ=>?_)
 obtain⟨bn,aa,ae⟩:=aJ
 cases e with
 |exit gp=>
  simp only[P7,Exit.inBlock]at*
  split
  ·rename_i he
   have ad:Nat.beq gp id=true:=by simpa using he
   rw[ad]at aa;exact⟨bn,aa,ae⟩
  ·rename_i he
   have ad:Nat.beq gp id=false:=by
    cases aJ:Nat.beq gp id with
    |false=>rfl
    |true=>exact absurd (Nat.eq_of_beq_eq_true aJ) he
   rw[ad]at aa;exact⟨bn,aa,ae⟩
 |_=>exact⟨bn,aa,ae⟩
def cl(s bn:aO):Prop:=∀E (G:a8) a w,Rel E G s a w→Rel E G bn a w
theorem cl.refl(s:aO):cl s s:=fun _ _ _ _ h=>h
theorem cl.trans{s bn P8:aO}(h:cl s bn)(k:cl bn P8):cl s P8:=fun E G a w ag=>k E G a w (h E G a w ag)
theorem b2.le{c:Code}{bn:aO}(h:cl s bn)(k:b2 P G c Q bn):b2 P G c Q s:=fun E a w ag=>k E a w (h E G a w ag)
theorem cu.le{ops:Array Oper}{l:List Oper}{bn:aO}(h:cl s bn)(k:cu P G ops Q l bn):cu P G ops Q l s:=fun E a w ag=>k E a w (h E G a w ag)
theorem b2.loop{ι:Type}(st:ι→aO)(inv:ι→Prop)(mu:ι→Nat){c:Code}(x:ι)(aP:cl s (st x))(hi:inv x)
    (round: ∀x,inv x→b2 P G c (fun e bn=>match e with
      | .normal=>∃y,inv y∧mu y<mu x∧cl bn (st y)
      |e=>Q e bn) (st x)):b2 P G (.loop c) Q s:=fun E a w ag=>by
  have key: ∀n x,mu x=n→inv x→∀a w,Rel E G (st x) a w→(Code.loop c).wp P (lift E G Q) a w:=by
    intro n x hn hx a w ag;refine wp_loop (fun a w=>∃y,inv y∧Rel E G (st y) a w) (fun a w=>Classical.epsilon fun m=>∃y,inv y∧Rel E G (st y) a w∧mu y=m∧∀z,inv z→Rel E G (st z) a w→m≤mu z) ⟨x,hx,ag⟩ ?_
    intro a w ⟨c7,vQ,zbO⟩
    have hex: ∃m,∃y,inv y∧Rel E G (st y) a w∧mu y=m∧∀z,inv z→Rel E G (st z) a w→m≤mu z:=by
      have: ∀k y,mu y=k→inv y→Rel E G (st y) a w→∃m,∃y,inv y∧Rel E G (st y) a w∧mu y=m∧∀z,inv z→Rel E G (st z) a w→m≤mu z:=by
        intro k
        induction k using Nat.strongRecOn with
        |_ k aZ=>
          intro y aj ax yL
          by_cases qM: ∀z,inv z→Rel E G (st z) a w→mu y≤mu z
          · exact⟨mu y,y,ax,yL,rfl,qM⟩
          · simp only[Classical.not_forall]at qM
            obtain⟨z,aV,jV,bI⟩:=qM;exact aZ (mu z) (by omega) z rfl aV jV
      exact this _ c7 rfl vQ zbO
    obtain⟨y,ax,yL,zbP,_⟩:=Classical.epsilon_spec hex;refine wp_mono (round y ax E a w yL) fun e bc w' aJ=>?_
    obtain⟨bn,aa,ae⟩:=aJ
    cases e with
    |normal=>
      obtain⟨z,aV,bI,hle⟩:=aa
      have jV:=hle E G bc w' ae
      refine⟨⟨z,aV,jV⟩,?_⟩
      have zbQ: ∃m,∃y,inv y∧Rel E G (st y) bc w'∧mu y=m∧∀z,inv z→Rel E G (st z) bc w'→m≤mu z:=by
        have: ∀k y,mu y=k→inv y→Rel E G (st y) bc w'→∃m,∃y,inv y∧Rel E G (st y) bc w'∧mu y=m∧∀z,inv z→Rel E G (st z) bc w'→m≤mu z:=by
          intro k
          induction k using Nat.strongRecOn with
          |_ k aZ=>
            intro y aj ax yL
            by_cases qM: ∀z,inv z→Rel E G (st z) bc w'→mu y≤mu z
            · exact⟨mu y,y,ax,yL,rfl,qM⟩
            · simp only[Classical.not_forall]at qM
              obtain⟨z,aV,jV,bI⟩:=qM;exact aZ (mu z) (by omega) z rfl aV jV
        exact this _ z rfl aV jV
      obtain⟨_,_,_,_,qM⟩:=Classical.epsilon_spec zbQ
      have av:=qM z aV jV
      rw[←zbP];exact Nat.lt_of_le_of_lt av bI
    |_=>exact⟨bn,aa,ae⟩
  exact key _ x rfl hi a w (aP E G a w ag)
end
def dE(P:Program)(G:a8)(f:FuncId)(args:List aC)(σ:Heap)(n:Nat)(Q:aC→Heap→Prop):Prop:=
 ∀w β ro (ea:Array Value),ea.size=args.length→(∀i x,args[i]? =some x→bp w ro σ β n x (ea.getD i undef))→gX w ro σ β n→rK w ro G→(∀id o,aD σ id=some o→id<n)→
  Calls P f ea w fun e w'=>∃v r eU dK ro' cH,e= .returned v∧Q r eU∧bp w' ro' eU dK cH r v∧gX w' ro' eU dK cH∧Trans ⟨w,ro,σ,β,n⟩ w' ro' eU dK cH
def mC(P:Program)(s:aO):List ResultVar→Option (List aC)
 |[]=>some []
 | .tmp t::r=>match mC P s r with
  |some l=>some (s.cO.getD t .top::l)
  |none=>none
 | .cell p t::r=>match mC P s r,fl s.heap (s.cO.getD p .top)with
  |some l,some cs=>match lV P t with
   |some n=>if n≤cs.length∧0<n then some (.agg (cs.take n)::l)else none
   |none=>if scalar P t then match cs with
    |y::_=>some (y::l)
    |[]=>none
    else none
  |_,_=>none
def yM(P:Program)(fn:Func)(s:aO):Option aC:=
 match mC P s fn.results.toList with
 |some [x]=>some x
 |some l=>some (.tuple l)
 |none=>none
def zbR(P:Program)(fn:Func)(Q:aC→Heap→Prop):Exit→aO→Prop:=fun e s=>
 (e= .normal∨e= .ret)∧∃r eU,yM P fn s=some r∧(∀id o,aD eU id=some o→aD s.heap id=some o)∧Q r eU
theorem gX.sub{w:World}{ro:Nat→Prop}{σ eU:Heap}{β:Nat→Value}{N:Nat}(h:gX w ro σ β N)(ai: ∀id o,aD eU id=some o→aD σ id=some o):gX w ro eU β N:=by
 refine⟨fun id o ah=>(h.c6 id o (ai id o ah)).keep (fun _ _=>rfl) (fun _ h=>h) (Nat.le_refl _) (Nat.le_refl _) rfl (fun _ _ _=>rfl) (fun id t cs ah=>⟨rfl,t,cs,ai id _ ah⟩) (fun id z t n es ah=>⟨rfl,z,t,es,ai id _ ah⟩) (fun id bM ah=>⟨rfl,bM,ai id _ ah⟩),
  fun id gp o cy b aa ae=>h.inj id gp o cy b (ai id o aa) (ai gp cy ae),fun b ad ⟨id,o,ah,ar,bf⟩=>h.fe b ad ⟨id,o,ai id o ah,ar,bf⟩,h.lt⟩
theorem bp.sub{w:World}{ro:Nat→Prop}{σ eU:Heap}{β:Nat→Value}{N:Nat}{x:aC}{c:Value}(h:bp w ro σ β N x c)(ai: ∀id o,aD eU id=some o→aD σ id=some o):bp w ro eU β N x c:=
 h.keep (fun _ _=>rfl) (fun _ h=>h) (Nat.le_refl _) (fun id t cs ah=>⟨rfl,t,cs,ai id _ ah⟩) (fun id z t _ es ah=>⟨rfl,z,t,es,ai id _ ah⟩) (fun id bM ah=>⟨rfl,bM,ai id _ ah⟩)
theorem Trans.sub{E:Entry}{w:World}{ro:Nat→Prop}{σ eU:Heap}{β:Nat→Value}{n:Nat}(h:Trans E w ro σ β n)(ai: ∀id o,aD eU id=some o→aD σ id=some o):Trans E w ro eU β n:=
 ⟨h.os,h.tape,h.output,h.size,h.frame,h.jb,h.jR,fun b ⟨id,o,ah,ar,bf⟩=>h.gY b ⟨id,o,ai id o ah,ar,bf⟩,fun id hi o ah=>h.dJ id hi o (ai id o ah),fun id o ah=>h.new id o (ai id o ah),h.le⟩
section
variable {P:Program} {G:a8}
def tH(tmps:Array Value):ResultVar→Sem Value
 | .tmp t=>pure (tmps.getD t undef)
 | .cell p t=>do
  let b ←asAddr (tmps.getD p undef)
  loadVar t b
theorem zbS(fn:Func)(tmps:Array Value):results fn tmps=(do
    let vs ←fn.results.mapM (tH tmps)
    pure (if h:vs.size=1 then vs[0]else .tuple vs)):=by
  unfold results
  have:(fun x=>match x with
      |ResultVar.tmp t=>(pure (tmps.getD t undef):Sem Value)
      |ResultVar.cell p t=>do
        let b ←asAddr (tmps.getD p undef)
        loadVar t b)=tH tmps:=by
    funext x
    cases x<;>rfl
  rw[←this];rfl
theorem IJ{E:Entry}{s:aO}{a:Act}{w:World}{β:Nat→Value}{ro:Nat→Prop}(h:c3 E G s a w β ro): ∀{rs:List ResultVar} {l:List aC},mC P s rs=some l→
 ∃vs:List Value,(rs.mapM (tH a.tmps)).run P w= .ok vs w∧vs.length=l.length∧∀j x,l[j]? =some x→bp w ro s.heap β s.next x (vs.getD j undef)
 |[],l,ar=>by
  simp[mC]at ar;subst ar;exact⟨[],by simp,rfl,by simp⟩
 | .tmp t::r,l,ar=>by
  simp only[mC]at ar
  cases ag:mC P s r with
  |none=>simp[ag]at ar
  |some hU=>
   simp only[ag,Option.some.injEq]at ar;subst ar;obtain⟨vs,aa,ae,av⟩:=IJ h ag;refine⟨a.tmps.getD t undef::vs,by simp only[List.mapM_cons,Sem.run_bind,tH,Sem.run_pure,Result.andThen_ok,aa],by simp[ae],fun j x af=>?_⟩
   cases j with
   |zero=>
    simp at af;subst af;exact h.eval (.tmp t)
   |succ j=>exact av j x af
 | .cell p t::r,l,ar=>by
  simp only[mC]at ar
  cases ag:mC P s r with
  |none=>simp[ag]at ar
  |some hU=>
   cases hc:fl s.heap (s.cO.getD p .top)with
   |none=>rw[ag,hc]at ar;cases ar
   |some cs=>
    rw[ag,hc]at ar;simp only at ar;obtain⟨vs,aa,ae,av⟩:=IJ h ag
    have dQ:=h.eval (.tmp p)
    simp only[aI,Act.eval]at dQ
    cases bS:lV P t with
    |some n=>
     simp only[bS]at ar
     split at ar
     ·rename_i hn
      simp only[Option.some.injEq]at ar;subst ar;obtain⟨cW,tI,f,hf⟩:=vM h.heap hc dQ (by intro e;subst e;simp at hn;omega)
      obtain⟨g1,g2⟩:=B6 bS w
      have lZ:=run_loadCells (P:=P) w cW n f (fun j af=>(hf j (cs[j]'(by omega)) (by simp)).1)
      refine⟨.agg ((List.range n).map f).toArray::vs,?_,by simp[ae],fun j x af=>?_⟩
      ·simp only[List.mapM_cons,Sem.run_bind,tH,tI,asAddr,Sem.run_pure,Result.andThen_ok,loadVar,g1,g2,if_true,lZ,aa]
      ·cases j with
       |zero=>
        simp at af;subst af;refine .agg _ _ (by simp;omega) fun j y af=>?_
        rw[List.getElem?_take]at af
        split at af
        ·have:=(hf j y af).2
         rename_i mo;simpa[mo]using this
        ·cases af
       |succ j=>exact av j x af
     ·cases ar
    |none=>
     simp only[bS]at ar
     split at ar
     ·rename_i hsc
      cases cs with
      |nil=>simp at ar
      |cons y cs'=>
       simp only[Option.some.injEq]at ar;subst ar;obtain⟨cW,tI,f,hf⟩:=vM h.heap hc dQ (by simp)
       have g1:=yA hsc w
       obtain⟨kO,dy⟩:=hf 0 y rfl;rw[show cW.add 0=cW from by simp[Addr.add]]at kO
       refine⟨f 0::vs,?_,by simp[ae],fun j x af=>?_⟩
       ·simp only[List.mapM_cons,Sem.run_bind,tH,tI,asAddr,Sem.run_pure,Result.andThen_ok,loadVar,g1]
        simp[run_load,kO,aa]
       ·cases j with
        |zero=>simp at af;subst af;exact dy
        |succ j=>exact av j x af
     ·cases ar
theorem zbT{E:Entry}{s:aO}{a:Act}{w:World}{β:Nat→Value}{ro:Nat→Prop}(h:c3 E G s a w β ro){fn:Func}{r:aC}(ag:yM P fn s=some r):
 ∃v,(results fn a.tmps).run P w= .ok v w∧bp w ro s.heap β s.next r v:=by
 unfold yM at ag
 cases a6:mC P s fn.results.toList with
 |none=>simp[a6]at ag
 |some l=>
  rw[a6]at ag;obtain⟨vs,aa,ae,av⟩:=IJ h a6
  have hm:(fn.results.mapM (tH a.tmps)).run P w= .ok vs.toArray w:=by
   rw[Array.mapM_eq_mapM_toList];simp only[Sem.run_map,aa]
   first|rfl|simp
  have qN:(results fn a.tmps).run P w= .ok (if h:vs.toArray.size=1 then vs.toArray[0]else .tuple vs.toArray) w:=by
   rw[zbS,Sem.run_bind,hm];rfl
  refine⟨_,qN,?_⟩
  match l,a6,ag,ae,av with
  |[x],_,ag,ae,av=>
   injection ag with ag
   subst ag
   have vh:vs.toArray.size=1:=by simpa using ae
   rw[dif_pos vh]
   have:=av 0 x rfl
   have Cd:0<vs.length:=by simp at vh;omega
   simpa[List.getD,Cd]using this
  |[],_,ag,ae,av=>
   injection ag with ag
   subst ag
   have:vs=[]:=List.eq_nil_of_length_eq_zero (by simpa using ae)
   subst this;exact .tuple _ _ rfl (by simp)
  |x::y::hU,_,ag,ae,av=>
   injection ag with ag
   subst ag;rw[dif_neg (by simp at ae⊢;omega)]
   refine .tuple _ _ (by simpa using ae) fun j z af=>?_
   have:=av j z af
   simpa[List.getD,Array.getD_eq_getD_getElem?]using this
theorem dE.OE{f:FuncId}{fn:Func}{c:Code}{args:List aC}{σ:Heap}{n k:Nat}{Q:aC→Heap→Prop}(hf:P.funcs[f]? =some fn)(ad:fn.body=some c)(aj:fn.ntmps-args.length=k)
 (h:b2 P G c (zbR P fn Q) ⟨args++List.replicate k .top,σ,n,n⟩):dE P G f args σ n Q:=by
 intro w β ro ea bQ hV bd ah bI
 refine calls_of_wp hf ad (wp_mono (h ⟨w,ro,σ,β,n⟩ _ w ⟨β,ro,rfl,?_,?_,bd,ah,?_,Nat.le_refl _⟩) ?_)
 ·simp[bQ,aj]
 ·intro i x hi
  simp only at hi
  by_cases IK:i<args.length
  ·rw[List.getElem?_append_left IK]at hi
   have:=hV i x hi
   have aa:i<ea.size:=by omega
   simpa[Array.getElem?_append_left aa,aa,Array.getElem_append_left aa]using this
  ·rw[List.getElem?_append_right (by omega)]at hi
   rw[List.getElem?_replicate]at hi
   split at hi
   ·simp only[Option.some.injEq]at hi;subst hi;exact .top _
   ·cases hi
 ·exact⟨rfl,rfl,rfl,Nat.le_refl _,fun _ _ _=>rfl,fun _ h=>.inl h,fun _ h=>h,fun _ h=>.inl h,fun id _ o an=>⟨by rw[an];simp,rfl⟩,bI,Nat.le_refl _⟩
 ·intro e bc w' ⟨bn,aJ,dK,ro',ag⟩
  obtain⟨he,r,eU,qN,gx,eo⟩:=aJ;obtain⟨v,aw,dy⟩:=zbT ag qN
  rcases he with rfl|rfl
  ·exact⟨ag.defers,v,aw,v,r,eU,dK,ro',bn.next,rfl,eo,dy.sub gx,ag.heap.sub gx,ag.trans.sub gx⟩
  ·exact⟨ag.defers,v,aw,v,r,eU,dK,ro',bn.next,rfl,eo,dy.sub gx,ag.heap.sub gx,ag.trans.sub gx⟩
end
end Go.aK
namespace Go.aK
open Go
mutual
def gy(n:Nat):aC→Bool
 | .au _=>true
 | .agg cs=>kP n cs
 | .tuple cs=>kP n cs
 | .ptr id _=>decide (id<n)
 | .dx id _=>decide (id<n)
 | .cV id _ _=>decide (id<n)
 | .aM id=>decide (id<n)
 | .fn _ p q=>kP n p&&kP n q
 | .ref id=>decide (id<n)
 | .top=>true
def kP(n:Nat):List aC→Bool
 |[]=>true
 |x::r=>gy n x&&kP n r
end
theorem qO{n:Nat}: ∀{cs:List aC},kP n cs=true→∀{j:Nat} {x:aC},cs[j]? =some x→gy n x=true
 |[],_,j,x,h=>by simp at h
 |y::r,ad,j,x,h=>by
  simp only[kP,Bool.and_eq_true]at ad
  cases j with
  |zero=>simp at h;subst h;exact ad.1
  |succ j=>simp at h;exact qO ad.2 h
theorem bp.lower{w:World}{ro:Nat→Prop}{σ:Heap}{β:Nat→Value}{N oh:Nat}{x:aC}{c:Value}(h:bp w ro σ β N x c)(ad:gy oh x=true):bp w ro σ β oh x c:=by
 induction h with
 |au x c hx=>exact .au x c hx
 |agg cs c ai _ aZ=>
  simp only[gy]at ad;exact .agg cs c ai fun j x af=>aZ j x af (qO ad af)
 |tuple cs c ai _ aZ=>
  simp only[gy]at ad;exact .tuple cs c ai fun j x af=>aZ j x af (qO ad af)
 |ptr id off c ar ak=>exact .ptr id off c (by simpa[gy]using ad) ak
 |dx id off c ar ak=>exact .dx id off c (by simpa[gy]using ad) ak
 |cV id i off c ar ak=>exact .cV id i off c (by simpa[gy]using ad) ak
 |aM id c ar ak=>exact .aM id c (by simpa[gy]using ad) ak
 |fn f p q c d aa ae _ _ gZ ha=>
  simp only[gy,Bool.and_eq_true]at ad;exact .fn f p q c d aa ae (fun j x af=>gZ j x af (qO ad.1 af)) (fun j x af=>ha j x af (qO ad.2 af))
 |ref id c ar ak=>exact .ref id c (by simpa[gy]using ad) ak
 |top c=>exact .top c
def vR(σ:Heap):List Nat→Heap
 |[]=>[]
 |id::r=>match aD σ id with
  |some o=>(id,o)::vR σ r
  |none=>vR σ r
theorem IL(σ:Heap): ∀(ids:List Nat) (id:Nat) (o:eg),aD (vR σ ids) id=some o→aD σ id=some o
 |[],id,o,h=>by simp[vR,aD]at h
 |k::r,id,o,h=>by
  simp only[vR]at h
  cases aj:aD σ k with
  |none=>rw[aj]at h;exact IL σ r id o h
  |some p=>
   rw[aj]at h;simp only[aD]at h
   split at h
   ·rename_i he
    subst he;rw[aj];exact h
   ·exact IL σ r id o h
def kQ(n:Nat):Heap→Bool
 |[]=>true
 |(id,.box _ cs)::r=>decide (id<n)&&kP n cs&&kQ n r
 |(id,.row _ _ _ _)::r=>decide (id<n)&&kQ n r
 |(id,.bK _)::r=>decide (id<n)&&kQ n r
theorem qP{n:Nat}: ∀{σ:Heap},kQ n σ=true→∀{id:Nat} {o:eg},aD σ id=some o→id<n∧∀t cs,o= .box t cs→kP n cs=true
 |[],_,id,o,h=>by simp[aD]at h
 |(k,.box t cs)::r,ad,id,o,h=>by
  simp only[kQ,Bool.and_eq_true,decide_eq_true_eq]at ad;simp only[aD]at h
  split at h
  ·rename_i he
   subst he;simp only[Option.some.injEq]at h;subst h;exact⟨ad.1.1,fun bz cs' he=>by cases he;exact ad.1.2⟩
  ·exact qP ad.2 h
 |(k,.row z t m es)::r,ad,id,o,h=>by
  simp only[kQ,Bool.and_eq_true,decide_eq_true_eq]at ad;simp only[aD]at h
  split at h
  ·rename_i he
   subst he;simp only[Option.some.injEq]at h;subst h;exact⟨ad.1,fun bz cs' he=>by cases he⟩
  ·exact qP ad.2 h
 |(k,.bK bM)::r,ad,id,o,h=>by
  simp only[kQ,Bool.and_eq_true,decide_eq_true_eq]at ad;simp only[aD]at h
  split at h
  ·rename_i he
   subst he;simp only[Option.some.injEq]at h;subst h;exact⟨ad.1,fun bz cs' he=>by cases he⟩
  ·exact qP ad.2 h
mutual
def hE(σ:Heap):aC→aC
 | .aM id=>match aD σ id with
  |some (.row true _ n es)=>.au (.aM n es)
  |_=>.aM id
 | .agg cs=>.agg (kl σ cs)
 | .tuple cs=>.tuple (kl σ cs)
 | .fn f p q=>.fn f (kl σ p) (kl σ q)
 | .au x=>.au x
 | .ptr id off=>.ptr id off
 | .dx id off=>.dx id off
 | .cV id i off=>.cV id i off
 | .ref id=>.ref id
 | .top=>.top
def kl(σ:Heap):List aC→List aC
 |[]=>[]
 |x::r=>hE σ x::kl σ r
end
theorem nn(σ:Heap): ∀(l:List aC),(kl σ l).length=l.length
 |[]=>rfl
 |x::r=>by simp[kl,nn σ r]
theorem ox(σ:Heap): ∀{l:List aC} {j:Nat} {x:aC},(kl σ l)[j]? =some x→∃y,l[j]? =some y∧x=hE σ y
 |[],j,x,h=>by simp[kl]at h
 |y::r,j,x,h=>by
  cases j with
  |zero=>simp[kl]at h;exact⟨y,by simp,h.symm⟩
  |succ j=>simp[kl]at h;simpa using ox σ h
theorem zbU{w:World}{ro:Nat→Prop}{σ:Heap}{β:Nat→Value}{N:Nat}(bd:gX w ro σ β N){x:aC}{c:Value}(h:bp w ro σ β N x c):bp w ro σ β N (hE σ x) c:=by
 induction h with
 |aM id c ar ak=>
  simp only[hE]
  split
  ·rename_i t n es ah
   rw[ak true t n es ah]
   have:=bd.c6 id _ ah
   cases this with
   |gb _ _ _ aa=>exact .au _ _ aa
  ·exact .aM id c ar ak
 |au x c h=>exact .au x c h
 |agg cs c aa _ aZ=>
  refine .agg _ c (by rw[nn];exact aa) fun j x af=>?_
  obtain⟨y,ax,rfl⟩:=ox σ af;exact aZ j y ax
 |tuple cs c aa _ aZ=>
  refine .tuple _ c (by rw[nn];exact aa) fun j x af=>?_
  obtain⟨y,ax,rfl⟩:=ox σ af;exact aZ j y ax
 |ptr id off c aa ae=>exact .ptr id off c aa ae
 |dx id off c aa ae=>exact .dx id off c aa ae
 |cV id i off c aa ae=>exact .cV id i off c aa ae
 |fn f p q c d aa ae _ _ gZ ha=>
  refine .fn f _ _ c d (by rw[nn];exact aa) (by rw[nn];exact ae) (fun j x af=>?_) (fun j x af=>?_)
  ·obtain⟨y,ax,rfl⟩:=ox σ af
   exact gZ j y ax
  ·obtain⟨y,ax,rfl⟩:=ox σ af
   exact ha j y ax
 |ref id c aa ae=>exact .ref id c aa ae
 |top c=>exact .top c
mutual
def fD:aC→Bool
 | .au _=>true
 | .agg cs=>e3 cs
 | .tuple cs=>e3 cs
 | .fn _ p q=>e3 p&&e3 q
 | .top=>true
 | .ptr _ _=>false
 | .dx _ _=>false
 | .cV _ _ _=>false
 | .aM _=>false
 | .ref _=>false
def e3:List aC→Bool
 |[]=>true
 |x::r=>fD x&&e3 r
end
theorem mD: ∀{cs:List aC},e3 cs=true→∀{j:Nat} {x:aC},cs[j]? =some x→fD x=true
 |[],_,j,x,h=>by simp at h
 |y::r,ad,j,x,h=>by
  simp only[e3,Bool.and_eq_true]at ad
  cases j with
  |zero=>simp at h;subst h;exact ad.1
  |succ j=>simp at h;exact mD ad.2 h
theorem Ce(l:List a1):e3 (l.map .au)=true:=by
 induction l with
 |nil=>rfl
 |cons x r aZ=>simp[e3,fD,aZ]
theorem np{w:World}{ro:Nat→Prop}{σ bU:Heap}{β yN:Nat→Value}{N M:Nat}{x:aC}{c:Value}(h:bp w ro σ β N x c)(ak:fD x=true):bp w ro bU yN M x c:=by
 induction h with
 |au x c h=>exact .au x c h
 |agg cs c aa _ aZ=>
  simp only[fD]at ak;exact .agg cs c aa fun j x af=>aZ j x af (mD ak af)
 |tuple cs c aa _ aZ=>
  simp only[fD]at ak;exact .tuple cs c aa fun j x af=>aZ j x af (mD ak af)
 |fn f p q c d aa ae _ _ gZ ha=>
  simp only[fD,Bool.and_eq_true]at ak;exact .fn f p q c d aa ae (fun j x af=>gZ j x af (mD ak.1 af)) (fun j x af=>ha j x af (mD ak.2 af))
 |top c=>exact .top c
 |ptr=>simp[fD]at ak
 |dx=>simp[fD]at ak
 |cV=>simp[fD]at ak
 |aM=>simp[fD]at ak
 |ref=>simp[fD]at ak
mutual
def pQ(d:Nat):aC→aC
 | .au x=>.au x
 | .agg cs=>.agg (lf d cs)
 | .tuple cs=>.tuple (lf d cs)
 | .ptr id off=>.ptr (d+id) off
 | .dx id off=>.dx (d+id) off
 | .cV id i off=>.cV (d+id) i off
 | .aM id=>.aM (d+id)
 | .fn f p q=>.fn f (lf d p) (lf d q)
 | .ref id=>.ref (d+id)
 | .top=>.top
def lf(d:Nat):List aC→List aC
 |[]=>[]
 |x::r=>pQ d x::lf d r
end
def kR(d:Nat):Heap→Heap
 |[]=>[]
 |(id,.box t cs)::r=>(d+id,.box t (lf d cs))::kR d r
 |(id,.row z t n es)::r=>(d+id,.row z t n es)::kR d r
 |(id,.bK bM)::r=>(d+id,.bK bM)::kR d r
def km(d:Nat):eg→eg
 | .box t cs=>.box t (lf d cs)
 | .row z t n es=>.row z t n es
 | .bK bM=>.bK bM
theorem vS(d:Nat): ∀(l:List aC),(lf d l).length=l.length
 |[]=>rfl
 |x::r=>by simp[lf,vS d r]
theorem vT(d:Nat): ∀{l:List aC} {j:Nat} {x:aC},(lf d l)[j]? =some x→∃y,l[j]? =some y∧x=pQ d y
 |[],j,x,h=>by simp[lf]at h
 |y::r,j,x,h=>by
  cases j with
  |zero=>simp[lf]at h;exact⟨y,by simp,h.symm⟩
  |succ j=>simp[lf]at h;simpa using vT d h
theorem P9(σ bU:Heap)(id:Nat):aD (σ++bU) id=(aD σ id).or (aD bU id):=by
 induction σ with
 |nil=>simp[aD]
 |cons p r aZ=>
  obtain⟨k,o⟩:=p;simp only[List.cons_append,aD]
  split
  ·simp
  ·exact aZ
theorem yO(d:Nat): ∀(σ:Heap) (id:Nat),aD (kR d σ) id=if d≤id then(aD σ (id-d)).map (km d)else none
 |[],id=>by simp[kR,aD]
 |(k,.box t cs)::r,id=>by
  simp only[kR,aD,yO d r]
  by_cases aa:d+k=id
  ·have ae:d≤id:=by omega
   have av:k=id-d:=by omega
   simp[ae,av,km]
  ·by_cases ae:d≤id
   ·have av: ¬k=id-d:=by omega
    simp[aa,ae,av]
   ·simp[aa,ae]
 |(k,.row z t n es)::r,id=>by
  simp only[kR,aD,yO d r]
  by_cases aa:d+k=id
  ·have ae:d≤id:=by omega
   have av:k=id-d:=by omega
   simp[ae,av,km]
  ·by_cases ae:d≤id
   ·have av: ¬k=id-d:=by omega
    simp[aa,ae,av]
   ·simp[aa,ae]
 |(k,.bK bM)::r,id=>by
  simp only[kR,aD,yO d r]
  by_cases aa:d+k=id
  ·have ae:d≤id:=by omega
   have av:k=id-d:=by omega
   simp[ae,av,km]
  ·by_cases ae:d≤id
   ·have av: ¬k=id-d:=by omega
    simp[aa,ae,av]
   ·simp[aa,ae]
theorem bp.shift{w:World}{ro ro':Nat→Prop}{σ bU:Heap}{β yN:Nat→Value}{N M:Nat}{x:aC}{c:Value}(h:bp w ro σ β N x c)(cc: ∀b,ro b→ro' b)
 (IM: ∀id o,aD bU id=some o→id<M):
 bp w ro' (kR M σ++bU) (fun k=>if M≤k then β (k-M)else yN k) (M+N) (pQ M x) c:=by
 have key: ∀id,aD (kR M σ++bU) (M+id)=(aD σ id).map (km M):=by
  intro id;rw[P9,yO]
  have aa:M≤M+id:=by omega
  simp only[aa,if_true,Nat.add_sub_cancel_left]
  cases ai:aD σ id with
  |some o=>simp
  |none=>
   simp
   cases aH:aD bU (M+id)with
   |none=>rfl
   |some o=>have:=IM _ _ aH;omega
 induction h with
 |au x c hx=>exact .au x c (hx.keep (fun _ _=>rfl) cc)
 |agg cs c ai _ aZ=>
  refine .agg _ c (by rw[vS];exact ai) fun j x af=>?_
  obtain⟨y,ax,rfl⟩:=vT M af;exact aZ j y ax
 |tuple cs c ai _ aZ=>
  refine .tuple _ c (by rw[vS];exact ai) fun j x af=>?_
  obtain⟨y,ax,rfl⟩:=vT M af;exact aZ j y ax
 |ptr id off c ar ak=>
  refine .ptr _ off c (by omega) fun t cs ah=>?_
  rw[key]at ah;simp only[Nat.le_add_right,if_true,Nat.add_sub_cancel_left]
  cases ai:aD σ id with
  |none=>simp[ai]at ah
  |some o=>
   cases o with
   |box bz cs'=>exact ak bz cs' ai
   |row=>simp[ai,km]at ah
   |bK=>simp[ai,km]at ah
 |dx id off c ar ak=>
  refine .dx _ off c (by omega) fun t cs ah=>?_
  rw[key]at ah;simp only[Nat.le_add_right,if_true,Nat.add_sub_cancel_left]
  cases ai:aD σ id with
  |none=>simp[ai]at ah
  |some o=>
   cases o with
   |box bz cs'=>exact ak bz cs' ai
   |row=>simp[ai,km]at ah
   |bK=>simp[ai,km]at ah
 |cV id i off c ar ak=>
  refine .cV _ i off c (by omega) fun z t n es ah=>?_
  rw[key]at ah;simp only[Nat.le_add_right,if_true,Nat.add_sub_cancel_left]
  cases ai:aD σ id with
  |none=>simp[ai]at ah
  |some o=>
   cases o with
   |box bz cs'=>simp[ai,km]at ah
   |bK=>simp[ai,km]at ah
   |row ij bz cH dN=>
    simp only[ai,Option.map_some,km,Option.some.injEq,eg.row.injEq]at ah;obtain⟨rfl,rfl,rfl,rfl⟩:=ah;exact ak _ _ _ _ ai
 |aM id c ar ak=>
  refine .aM _ c (by omega) fun z t n es ah=>?_
  rw[key]at ah;simp only[Nat.le_add_right,if_true,Nat.add_sub_cancel_left]
  cases ai:aD σ id with
  |none=>simp[ai]at ah
  |some o=>
   cases o with
   |box bz cs'=>simp[ai,km]at ah
   |bK=>simp[ai,km]at ah
   |row ij bz cH dN=>exact ak _ _ _ _ ai
 |fn f p q c d aa ae _ _ gZ ha=>
  refine .fn f _ _ c d (by rw[vS];exact aa) (by rw[vS];exact ae) (fun j x af=>?_) (fun j x af=>?_)
  ·obtain⟨y,ax,rfl⟩:=vT M af
   exact gZ j y ax
  ·obtain⟨y,ax,rfl⟩:=vT M af
   exact ha j y ax
 |ref id c ar ak=>
  refine .ref _ c (by omega) fun bM ah=>?_
  rw[key]at ah;simp only[Nat.le_add_right,if_true,Nat.add_sub_cancel_left]
  cases ai:aD σ id with
  |none=>simp[ai]at ah
  |some o=>
   cases o with
   |box=>simp[ai,km]at ah
   |row=>simp[ai,km]at ah
   |bK lb=>exact ak lb ai
 |top c=>exact .top c
def mE(P:Program)(f:FuncId):Bool:=
 match P.funcs[f]? with
 |some fn=>!(fn.name== "runtime.NumGoroutine")&&fn.body.isSome
 |none=>false
theorem Cf{P:Program}{f:FuncId}(h:mE P f=true)(args:Array Value)(w:World):(callFunc f args).run P w= .ok (.enter f args) w:=by
 unfold mE at h
 split at h
 ·rename_i fn hf
  simp only[Bool.and_eq_true,Bool.not_eq_true']at h
  have ae:fn.body≠none:=by intro e;simp[e]at h
  have av:fn.name≠ "runtime.NumGoroutine" :=by simpa using h.1
  simp[callFunc,hf,ae,av]
 ·cases h
section
variable {P:Program} {G:a8} {s:aO} {Q:Exit→aO→Prop}
theorem lT.call{o:Oper}{x:Operand}{xs:Array Operand}{ts:Array TypeId}(an:o.op= .call {callee:=.value x,args:=xs,argTypes:=ts}){f:FuncId}(hx:aI G s x= .fn (.func f) [] [])
 (gz:mE P f=true){args:List aC}(hV:xs.toList.map (fun y=>hE s.heap (aI G s y))=args)(oy:e3 args=true){R:aC→Heap→Prop}(hc:dE P G f args [] 0 R){K:Nat}{r:aC}{bU:Heap}
 (fQ: ∀eP fE,R eP fE→eP=r∧fE=bU)(IN:gy K r=true)(Cg:kQ K bU=true)(ad:s.base≤s.next):
 lT P G o s ({s with heap:=kR s.next bU++s.heap,next:=s.next+K}.put o.dst (pQ s.next r)):=by
 intro E a w ⟨β,ro,h⟩ zbV zbW IP
 have lg:=h.eval x
 rw[hx]at lg
 generalize he:a.eval x=IQ at lg
 cases lg with
 |fn _ _ _ c d aa ae _ _=>
  have hv:c= #[]:=by simpa using aa
  have nS:d= #[]:=by simpa using ae
  subst hv nS;unfold Oper.wp;simp only[execOp,an,resolve,he,Deferred.ofValue,Sem.run_bind,Sem.run_pure,Result.andThen_ok,invoke,Array.empty_append,Array.append_empty];rw[Cf gz]
  have hlen:xs.toList.length=args.length:=by have:=congrArg List.length hV;simpa using this
  have hb:=hc w β ro (xs.map a.eval) (by simpa using hlen) (fun i y ax=>by
   have hi:(xs.toList.map (fun y=>hE s.heap (aI G s y)))[i]? =some y:=by rw[hV];exact ax
   rw[List.getElem?_map]at hi
   cases IS:xs.toList[i]? with
   |none=>simp[IS]at hi
   |some z=>
    simp[IS]at hi
    have aw:=zbU h.heap (h.eval z)
    rw[hi]at aw
    have zbX:xs[i]? =some z:=by simpa using IS
    have dQ:(xs.map a.eval).getD i undef=a.eval z:=by simp[zbX]
    rw[dQ]
    exact np aw (mD oy ax)) ⟨by simp[aD],by simp[aD],fun b _ ⟨_,_,ah,_⟩=>by simp[aD]at ah,h.heap.lt⟩ h.h3 (by simp[aD])
  refine Calls.mono hb fun e w' aJ=>?_
  obtain⟨v,eP,fE,dK,ro',cH,rfl,zbY,dy,hG,cD⟩:=aJ;obtain⟨rfl,rfl⟩:=fQ eP fE zbY
  have kS: ∀b,¬Own ([]:Heap) β b:=fun b ⟨_,_,ah,_⟩=>by simp[aD]at ah
  have lh: ∀b,b<w.heap.size→w'.heap[b]? =w.heap[b]? :=fun b ad=>cD.frame b ad (kS b)
  have qQ:=dy.lower IN
  have fb:=h.heap
  have IT:=fun id o ah=>h.trans.new id o ah
  have cc: ∀b,ro b→w'.heap[b]? =w.heap[b]? :=fun b ad=>lh b (h.heap.lt b ad)
  have nj: ∀k p b,aD s.heap k=some p→p.live=true→b5 (β k)=some b→b<w.heap.size:=fun k p b aj ak bf=>(h.heap.c6 k p aj).hB ak bf
  have Ch: ∀k p b,aD fE k=some p→p.live=true→b5 (dK k)=some b→w.heap.size≤b:=by
   intro k p b aj ak bf
   rcases cD.gY b ⟨k,p,aj,ak,bf⟩with hc|hc
   ·exact absurd hc (kS b)
   ·exact hc

  have look: ∀id,aD (kR s.next fE++s.heap) id=if s.next≤id then(aD fE (id-s.next)).map (km s.next)else aD s.heap id:=by
   intro id;rw[P9,yO]
   by_cases hi:s.next≤id
   ·simp only[hi,if_true]
    cases ai:aD fE (id-s.next)with
    |some p=>simp
    |none=>
     simp
     cases aH:aD s.heap id with
     |none=>rfl
     |some p=>have:=IT _ _ aH;omega
   ·simp[hi]
  have up: ∀x c,bp w ro s.heap β s.next x c→bp w' (fun b=>ro b∨ro' b) (kR s.next fE++s.heap) (fun k=>if s.next≤k then dK (k-s.next)else β k) (s.next+K) x c:=by
   intro x c hx
   induction hx with
   |au x c hx=>exact .au x c (hx.keep cc fun _ h=>.inl h)
   |agg cs c ai _ aZ=>exact .agg cs c ai aZ
   |tuple cs c ai _ aZ=>exact .tuple cs c ai aZ
   |ptr k off c ar ak=>
    have aj: ¬s.next≤k:=by omega
    exact .ptr k off c (by omega) fun t cs bm=>by rw[look,if_neg aj]at bm;simp only[aj,if_false];exact ak t cs bm
   |dx k off c ar ak=>
    have aj: ¬s.next≤k:=by omega
    exact .dx k off c (by omega) fun t cs bm=>by rw[look,if_neg aj]at bm;simp only[aj,if_false];exact ak t cs bm
   |cV k i off c ar ak=>
    have aj: ¬s.next≤k:=by omega
    exact .cV k i off c (by omega) fun z t n es bm=>by rw[look,if_neg aj]at bm;simp only[aj,if_false];exact ak z t n es bm
   |aM k c ar ak=>
    have aj: ¬s.next≤k:=by omega
    exact .aM k c (by omega) fun z t n es bm=>by rw[look,if_neg aj]at bm;simp only[aj,if_false];exact ak z t n es bm
   |fn f p q c d aa ae _ _ gZ ha=>exact .fn f p q c d aa ae gZ ha
   |ref k c ar ak=>
    have aj: ¬s.next≤k:=by omega
    exact .ref k c (by omega) fun bM bm=>by rw[look,if_neg aj]at bm;simp only[aj,if_false];exact ak bM bm
   |top c=>exact .top c
  have Qa: ∀b,ro' b→ro b∨w.heap.size≤b:=fun b ad=>by
   rcases cD.jb b ad with h|h|h
   ·exact .inl h
   ·exact absurd h (kS b)
   ·exact .inr h
  refine IP _ _ ⟨fun k=>if s.next≤k then dK (k-s.next)else β k,fun b=>ro b∨ro' b,c3.put (s:={s with heap:=kR s.next fE++s.heap,next:=s.next+K}) ⟨h.defers,h.size,fun i x hx=>up _ _ (h.slot i x hx),⟨fun id p ah=>?_,?_,?_,?_⟩,?_,?_,h.base⟩ o.dst _ _ ?_⟩ lh
  ·simp only[look]at ah
   by_cases hi:s.next≤id
   ·simp only[hi,if_true]at ah
    cases ai:aD fE (id-s.next)with
    |none=>simp[ai]at ah
    |some q=>
     simp[ai]at ah;subst ah;obtain⟨_,yP⟩:=qP Cg ai
     have gH:=hG.c6 _ q ai
     cases gH with
     |box t cs b arr aA bh ct e1=>
      refine .box t _ b arr (by simp[hi,aA]) bh (by rw[vS];exact ct) fun j x af=>?_
      obtain⟨y,ax,rfl⟩:=vT s.next af;exact bp.shift ((e1 j y ax).lower (qO (yP t cs rfl) ax)) (fun _ h=>.inr h) IT
     |row t n es xs aA bh ct=>exact .row t n es xs (by simp only[hi,if_true];exact aA) bh fun j x af=>(ct j x af).keep (fun _ _=>rfl) fun _ h=>.inr h
     |gb t n es aA=>exact .gb t n es (by simp only[hi,if_true];exact aA.keep (fun _ _=>rfl) fun _ h=>.inr h)
     |bK bM b o aA bh ct=>exact .bK bM b o (by simp only[hi,if_true];exact aA) bh (by simp only[hi,if_true];exact bM.mono _ _ _ _ (fun x c h=>h.keep (fun _ _=>rfl) fun _ h=>.inr h) ct)
   ·simp only[hi,if_false]at ah
    have gH:=h.heap.c6 id p ah
    cases gH with
    |box t cs b arr aA bh ct e1=>
     have hC:=nj id _ b ah rfl (by rw[aA];rfl)
     exact .box t cs b arr (by simp only[hi,if_false];exact aA) ((lh b hC).trans bh) ct fun j x af=>up _ _ (e1 j x af)
    |row t n es xs aA bh ct=>
     exact .row t n es xs (by simp only[hi,if_false];exact aA.keep (fun b ad=>lh b (aA.hB ad).1) cD.size) bh fun j x af=>(ct j x af).keep cc fun _ h=>.inl h
    |gb t n es aA=>exact .gb t n es (by simp only[hi,if_false];exact aA.keep cc fun _ h=>.inl h)
    |bK bM b o aA bh ct=>exact .bK bM b o (by simp only[hi,if_false];exact aA) ((lh b (Array.getElem?_eq_some_iff.1 bh).1).trans bh) (by simp only[hi,if_false];exact bM.mono _ _ _ _ (fun x c h=>h.keep cc fun _ h=>.inl h) ct)
  ·intro id gp p fW b ah dU ak gG bf en
   rw[look]at ah dU
   by_cases hi:s.next≤id
   ·simp only[hi,if_true]at ah bf
    cases ai:aD fE (id-s.next)with
    |none=>simp[ai]at ah
    |some q=>
     have qH:q.live=true:=by simp[ai]at ah;subst ah;cases q<;>first|rfl|exact ak
     have h0:=Ch _ q b ai qH bf
     by_cases hg:s.next≤gp
     ·simp only[hg,if_true]at dU en
      cases eW:aD fE (gp-s.next)with
      |none=>simp[eW]at dU
      |some q'=>
       have yE:q'.live=true:=by simp[eW]at dU;subst dU;cases q'<;>first|rfl|exact gG
       have:=hG.inj _ _ q q' b ai eW qH yE bf en
       omega
     ·simp only[hg,if_false]at dU en
      have:=nj gp fW b dU gG en
      omega
   ·simp only[hi,if_false]at ah bf
    have IU:=nj id p b ah ak bf
    by_cases hg:s.next≤gp
    ·simp only[hg,if_true]at dU en
     cases eW:aD fE (gp-s.next)with
     |none=>simp[eW]at dU
     |some q'=>
      have yE:q'.live=true:=by simp[eW]at dU;subst dU;cases q'<;>first|rfl|exact gG
      have h0:=Ch _ q' b eW yE en
      omega
    ·simp only[hg,if_false]at dU en
     exact h.heap.inj id gp p fW b ah dU ak gG bf en
  ·rintro b ad ⟨id,p,ah,ak,bf⟩
   rw[look]at ah
   by_cases hi:s.next≤id
   ·simp only[hi,if_true]at ah bf
    cases ai:aD fE (id-s.next)with
    |none=>simp[ai]at ah
    |some q=>
     have qH:q.live=true:=by simp[ai]at ah;subst ah;cases q<;>first|rfl|exact ak
     have h0:=Ch _ q b ai qH bf
     rcases ad with ad|ad
     ·have:=h.heap.lt b ad;omega
     ·exact hG.fe b ad ⟨_,q,ai,qH,bf⟩
   ·simp only[hi,if_false]at ah bf
    have IU:=nj id p b ah ak bf
    rcases ad with ad|ad
    ·exact h.heap.fe b ad ⟨id,p,ah,ak,bf⟩
    ·rcases Qa b ad with hc|hc
     ·exact h.heap.fe b hc ⟨id,p,ah,ak,bf⟩
     ·omega
  ·intro b ad
   rcases ad with ad|ad
   ·exact Nat.lt_of_lt_of_le (h.heap.lt b ad) cD.size
   ·exact hG.lt b ad
  ·exact h.h3.keep cc fun _ h=>.inl h
  ·have t:=h.trans
   refine⟨cD.os.trans t.os,cD.tape.trans t.tape,cD.output.trans t.output,Nat.le_trans t.size cD.size,fun b hC gf=>(lh b (Nat.lt_of_lt_of_le hC t.size)).trans (t.frame b hC gf),?_,fun b ad=>.inl (t.jR b ad),?_,?_,?_,?_⟩
   ·intro b ad
    rcases ad with ad|ad
    ·exact t.jb b ad
    ·rcases Qa b ad with hc|hc
     ·exact t.jb b hc
     ·exact .inr (.inr (Nat.le_trans t.size hc))
   ·rintro b ⟨id,p,ah,ak,bf⟩
    rw[look]at ah
    by_cases hi:s.next≤id
    ·simp only[hi,if_true]at ah bf
     cases ai:aD fE (id-s.next)with
     |none=>simp[ai]at ah
     |some q=>
      have qH:q.live=true:=by simp[ai]at ah;subst ah;cases q<;>first|rfl|exact ak
      exact .inr (Nat.le_trans t.size (Ch _ q b ai qH bf))
    ·simp only[hi,if_false]at ah bf
     exact t.gY b ⟨id,p,ah,ak,bf⟩
   ·intro id bb p ah
    have aa:=h.base
    have hi: ¬s.next≤id:=by omega
    rw[look,if_neg hi]at ah;simp only[hi,if_false];exact t.dJ id bb p ah
   ·intro id p ah
    simp only[look]at ah
    by_cases hi:s.next≤id
    ·simp only[hi,if_true]at ah
     cases ai:aD fE (id-s.next)with
     |none=>simp[ai]at ah
     |some q=>
      have:=(qP Cg ai).1
      show id<s.next+K;omega
    ·show id<s.next+K
     omega
   ·have:=h.base
    show E.n≤s.next+K;omega
  ·exact bp.shift qQ (fun _ h=>.inr h) IT
theorem dO.call{o:Oper}{x:Operand}{xs:Array Operand}{ts:Array TypeId}(an:o.op= .call {callee:=.value x,args:=xs,argTypes:=ts}){f:FuncId}(hx:aI G s x= .fn (.func f) [] [])
 (gz:mE P f=true){args:List aC}(hV:xs.toList.map (fun y=>hE s.heap (aI G s y))=args)(oy:e3 args=true){R:aC→Heap→Prop}(hc:dE P G f args [] 0 R){K:Nat}{r:aC}{bU:Heap}
 (fQ: ∀eP fE,R eP fE→eP=r∧fE=bU)(IN:gy K r=true)(Cg:kQ K bU=true)(ad:s.base≤s.next):
 dO P G o s ({s with heap:=kR s.next bU++s.heap,next:=s.next+K}.put o.dst (pQ s.next r)):=(lT.call an hx gz hV oy hc fQ IN Cg ad).op
end
end Go.aK
namespace Go.aK
open Go
section
variable {P:Program} {G:a8} {o:Oper} {s:aO}
theorem cN.Qb{w:World}{ro:Nat→Prop}{n:Nat}{es:List (List a1)}{c:Value}(h:cN w ro (.aM n es) c): ∃b cap,c= .slice b es.length cap:=by
 cases h with
 |aM _ _ b cap=>exact⟨b,cap,rfl⟩
def kT(σ:Heap):aC→Option Nat
 | .au (.aM _ es)=>some es.length
 | .au (.v (.slice none 0 0))=>some 0
 | .aM id=>match aD σ id with
  |some (.row _ _ _ es)=>some es.length
  |_=>none
 |_=>none
theorem zbZ{w:World}{ro:Nat→Prop}{σ:Heap}{β:Nat→Value}{N:Nat}(bd:gX w ro σ β N){x:aC}{c:Value}(h:bp w ro σ β N x c){m:Nat}(hm:kT σ x=some m): ∃b cap,c= .slice b m cap:=by
 cases h with
 |au x c hx=>
  cases hx with
  |v _ aa=>
   cases c with
   |slice a l hT=>
    cases a with
    |none=>
     cases l with
     |zero=>
      cases hT with
      |zero=>simp[kT]at hm;subst hm;exact⟨_,_,rfl⟩
      |succ=>simp[kT]at hm
     |succ=>simp[kT]at hm
    |some=>simp[kT]at hm
   |_=>simp[kT]at hm
  |ptr=>simp[kT]at hm
  |mp=>simp[kT]at hm
  |ek=>simp[kT]at hm
  |li=>simp[kT]at hm
  |aM n es b cap c aa ae av aQ bL=>
   simp only[kT,Option.some.injEq]at hm;subst hm;exact⟨b,cap,rfl⟩
 |aM id c ar ak=>
  simp only[kT]at hm
  split at hm
  ·rename_i z t n es ah
   simp only[Option.some.injEq]at hm;subst hm;rw[ak z t n es ah]
   have:=bd.c6 id _ ah
   cases this with
   |row _ _ _ xs aa=>
    rcases aa.2 with⟨⟨_,aw,_⟩,aV⟩|⟨g,cap,cur,aw,_⟩
    ·rw[aw,aV];exact⟨_,_,rfl⟩
    ·rw[aw];exact⟨_,_,rfl⟩
   |gb _ _ _ aa=>exact aa.Qb
  ·cases hm
 |_=>simp[kT]at hm
def isSlice(P:Program)(t:TypeId):Bool:=
 match P.underlying t with
 |some (.slice _)=>true
 |_=>false
theorem IV(x:Operand)(t:TypeId)(an:o.op= .call {callee:=.builtin .len,args:=#[x],argTypes:=#[t]})(aH:isSlice P t=true){m:Nat}(hm:kT s.heap (aI G s x)=some m):
 cL P G o s (.au (.v (.int .i64 (m:Int)))):=
 fun _ a w β ro ag=>by
  obtain⟨b,cap,hc⟩:=zbZ ag.heap (ag.eval x) hm;unfold isSlice at aH
  split at aH
  ·rename_i e hu
   refine⟨.int .i64 m,?_,.fC rfl⟩
   simp[execOp,an,resolve,invoke,builtin,hc,Builtin.len_,run_underlying hu,goInt]
  ·cases aH
theorem IW(x:Operand)(t:TypeId)(an:o.op= .call {callee:=.builtin .len,args:=#[x],argTypes:=#[t]})(aH:P.underlying t=some .string){b:ByteArray}(hx:aI G s x= .au (.v (.string b))):
 cL P G o s (.au (.v (.int .i64 (b.size:Int)))):=
 fun _ a w β ro ag=>by
  refine⟨.int .i64 b.size,?_,.fC rfl⟩
  simp[execOp,an,resolve,invoke,builtin,ag.ec hx,Builtin.len_,run_underlying aH,goInt]
def Ci(P:Program)(t:TypeId):Option Nat:=
 match P.underlying t with
 |some (.array n _)=>some n
 |some (.pointer a)=>match P.underlying a with
  |some (.array n _)=>some n
  |_=>none
 |_=>none
theorem Qc(x:Operand)(t:TypeId)(an:o.op= .call {callee:=.builtin .len,args:=#[x],argTypes:=#[t]}){n:Nat}(aH:Ci P t=some n):
 cL P G o s (.au (.v (.int .i64 (n:Int)))):=
 fun _ a w β ro ag=>by
  refine⟨.int .i64 n,?_,.fC rfl⟩
  unfold Ci at aH
  split at aH
  ·rename_i m e hu
   simp only[Option.some.injEq]at aH;subst aH;simp[execOp,an,resolve,invoke,builtin,Builtin.len_,run_underlying hu,goInt]
  ·rename_i p hu
   split at aH
   ·rename_i m e zb0
    simp only[Option.some.injEq]at aH;subst aH;simp[execOp,an,resolve,invoke,builtin,Builtin.len_,run_underlying hu,run_underlying zb0,goInt]
   ·cases aH
  ·cases aH
def jW(P:Program)(t:TypeId):Option Nat:=
 match P.underlying t with
 |some (.slice e)=>(P.info? e).map (·.size)
 |_=>none
theorem yQ{t n:Nat}(h:jW P t=some n): ∃e,P.underlying t=some (.slice e)∧∀w,(sizeOf e).run P w= .ok n w:=by
 unfold jW at h
 split at h
 ·rename_i e hu
  cases hi:P.info? e with
  |none=>simp[hi]at h
  |some i=>
   simp[hi]at h;subst h;exact⟨e,hu,fun w=>by simp[sizeOf,typeInfo,hi]⟩
 ·cases h
def l0(σ:Heap)(n j:Nat):aC→Option aC
 | .au (.aM m es)=>if m=n then match es[j]? with
  |some e=>some (.au (.ptr e))
  |none=>none
  else none
 | .aM id=>match aD σ id with
  |some (.row false _ m es)=>if m=n∧j<es.length then some (.cV id j 0)else none
  |some (.row true _ m es)=>if m=n then match es[j]? with
   |some e=>some (.au (.ptr e))
   |none=>none
   else none
  |_=>none
 |_=>none
theorem cN.elem{w:World}{ro:Nat→Prop}{n:Nat}{es:List (List a1)}{c:Value}(h:cN w ro (.aM n es) c){j:Nat}{e:List a1}(af:es[j]? =some e):
 ∃a cap,c= .slice (some a) es.length cap∧cN w ro (.ptr e) (.pointer (some (a.add (j*n)))):=by
 cases h with
 |aM _ _ b cap f aa ae av aQ bL=>
  have cJ:j<es.length:=(List.getElem?_eq_some_iff.1 af).1
  obtain⟨a,rfl,hc⟩:=aQ (by omega)
  have ni:e.length=n:=av e (List.mem_of_getElem? af)
  have kG:j*n+n≤es.length*n:=by rw[←Nat.succ_mul];exact Nat.mul_le_mul_right n cJ
  refine⟨a,cap,rfl,.ptr _ _ (fun k=>f (j*n+k)) (fun k x aj=>?_) (fun k x aj=>?_)⟩
  ·have oz:k<n:=by have:=(List.getElem?_eq_some_iff.1 aj).1;omega
   rw[pK,yy];exact hc _ (by omega)
  ·have oz:k<n:=by have:=(List.getElem?_eq_some_iff.1 aj).1;omega
   exact bL _ _ (by rw[qF av af k oz];exact aj)
theorem Qd{w:World}{ro:Nat→Prop}{σ:Heap}{β:Nat→Value}{N:Nat}(bd:gX w ro σ β N){x:aC}{c:Value}(h:bp w ro σ β N x c){n j:Nat}{p:aC}(ak:l0 σ n j x=some p):
 ∃a len cap,c= .slice (some a) len cap∧j<len∧bp w ro σ β N p (.pointer (some (a.add (j*n)))):=by
 cases h with
 |au x c hx=>
  cases x with
  |v=>simp[l0]at ak
  |ptr=>simp[l0]at ak
  |mp=>simp[l0]at ak
  |ek=>simp[l0]at ak
  |li=>simp[l0]at ak
  |aM m es=>
   simp only[l0]at ak
   split at ak
   ·rename_i hm
    subst hm
    split at ak
    ·rename_i e he
     simp only[Option.some.injEq]at ak;subst ak;obtain⟨a,cap,hc,ag⟩:=hx.elem he;exact⟨a,es.length,cap,hc,(List.getElem?_eq_some_iff.1 he).1,.au _ _ ag⟩
    ·cases ak
   ·cases ak
 |aM id c ar aJ=>
  simp only[l0]at ak
  split at ak
  ·rename_i t m es ah
   split at ak
   ·rename_i hm
    obtain⟨rfl,af⟩:=hm;simp only[Option.some.injEq]at ak;subst ak
    have dj:=bd.c6 id _ ah
    cases dj with
    |row _ _ _ xs aa=>
     rcases aa.2 with⟨_,aV⟩|⟨g,cap,cur,aw,_⟩
     ·omega
     ·rw[aJ _ _ _ _ ah,aw]
      refine⟨_,_,_,rfl,af,.cV _ _ _ _ ar fun ij bz cH dN dU=>?_⟩
      rw[ah]at dU;simp only[Option.some.injEq,eg.row.injEq]at dU;obtain⟨_,_,rfl,_⟩:=dU;exact⟨g,_,_,aw,by rw[addLit];simp⟩
   ·cases ak
  ·rename_i t m es ah
   split at ak
   ·rename_i hm
    subst hm
    split at ak
    ·rename_i e he
     simp only[Option.some.injEq]at ak;subst ak
     have dj:=bd.c6 id _ ah
     cases dj with
     |gb _ _ _ aa=>
      obtain⟨a,cap,hc,ag⟩:=aa.elem he;exact⟨a,es.length,cap,by rw[aJ _ _ _ _ ah,hc],(List.getElem?_eq_some_iff.1 he).1,.au _ _ ag⟩
    ·cases ak
   ·cases ak
  ·cases ak
 |_=>simp[l0]at ak
theorem Qe(t:TypeId)(x i:Operand)(an:o.op= .indexAddr t x i){n:Nat}(aH:jW P t=some n){k:IntKind}{j:Nat}(hi:aI G s i= .au (.v (.int k (j:Int)))){p:aC}(ak:l0 s.heap n j (aI G s x)=some p):
 cL P G o s p:=
 fun _ a w β ro ag=>by
  obtain⟨cW,len,cap,hc,af,dy⟩:=Qd ag.heap (ag.eval x) ak;obtain⟨e,hu,bQ⟩:=yQ aH;refine⟨_,?_,dy⟩
  have qR:(0:Int)≤j∧(j:Int)<len:=⟨by omega,by omega⟩
  simp[execOp,an,hc,ag.ec hi,Instr.indexAt,asIntOf,run_underlying hu,af,bQ]
def tJ(P:Program)(t:TypeId):Option (Nat × Nat):=
 match P.underlying t with
 |some (.array n e)=>(P.info? e).map fun i=>(n,i.size)
 |_=>none
theorem IX(t:TypeId)(x i:Operand)(an:o.op= .indexAddr t x i){len n:Nat}(aH:tJ P t=some (len,n)){k:IntKind}{j:Nat}(hi:aI G s i= .au (.v (.int k (j:Int))))(af:j<len)
 {cs:List aC}(dH:fl s.heap (aI G s x)=some cs){p:aC}(ak:iD (j*n) (aI G s x)=some p):
 cL P G o s p:=
 fun _ a w β ro ag=>by
  obtain⟨cW,hc,dy⟩:=Py ak dH (ag.eval x);unfold tJ at aH
  split at aH
  ·rename_i m e hu
   cases tK:P.info? e with
   |none=>simp[tK]at aH
   |some zb1=>
    simp[tK]at aH;obtain⟨rfl,rfl⟩:=aH;refine⟨_,?_,dy⟩
    simp[execOp,an,hc,ag.ec hi,Instr.indexAt,asIntOf,run_underlying hu,Instr.sureAddr,af,sizeOf,typeInfo,tK]
  ·cases aH
theorem Qf(t:TypeId)(x i:Operand)(an:o.op= .index t x i)(aH:P.underlying t=some .string){k:IntKind}{j:Nat}(hi:aI G s i= .au (.v (.int k (j:Int)))){b:ByteArray}(hx:aI G s x= .au (.v (.string b)))
 {u:UInt8}(hu:b.data.toList[j]? =some u):cL P G o s (.au (.v (.int .u8 (u.toNat:Int)))):=
 fun _ a w β ro ag=>by
  have af:b[j]? =some u:=by
   have aa:j<b.size:=by have:=(List.getElem?_eq_some_iff.1 hu).1;simpa using this
   rw[ByteArray.getElem?_lt' b j aa]
   rw[List.getElem?_eq_some_iff]at hu
   obtain⟨_,ae⟩:=hu;simp only[Option.some.injEq];rw[←ae];rfl
  exact⟨_,by simp[execOp,an,ag.ec hx,ag.ec hi,Instr.index,asIntOf,run_underlying aH,af],.fC rfl⟩
def vU(P:Program)(t:TypeId)(f:Nat):Option (Nat × Option Nat):=
 match P.underlying t with
 |some (.struct fs)=>match fs[f]? with
  |some fd=>if scalar P fd.type then some (fd.offset,none)else match lV P fd.type with
   |some n=>some (fd.offset,some n)
   |none=>none
  |none=>none
 |_=>none
theorem Qg(t:TypeId)(x:Operand)(f:Nat)(an:o.op= .field t x f){off:Nat}(aH:vU P t f=some (off,none)){cs:List aC}(hx:aI G s x= .agg cs){v:aC}(aw:cs[off]? =some v):
 cL P G o s v:=
 fun _ a w β ro ag=>by
  have h:=ag.eval x
  rw[hx]at h;generalize he:a.eval x=c at h
  cases h with
  |agg _ c ai hc=>
   have bI:off<c.size:=by have:=(List.getElem?_eq_some_iff.1 aw).1;omega
   unfold vU at aH
   split at aH
   ·rename_i fs hu
    split at aH
    ·rename_i fd hf
     split at aH
     ·rename_i hsc
      simp only[Option.some.injEq,Prod.mk.injEq,and_true]at aH;subst aH;refine⟨c[fd.offset],?_,by simpa[bI]using hc _ v aw⟩
      simp[execOp,an,he,Instr.field,run_underlying hu,hf,asAgg,part,yA hsc,bI]
     ·split at aH
      ·simp at aH
      ·cases aH
    ·cases aH
   ·cases aH
theorem Qh(t:TypeId)(x:Operand)(f:Nat)(an:o.op= .field t x f){off n:Nat}(aH:vU P t f=some (off,some n)){cs:List aC}(hx:aI G s x= .agg cs)(hn:off+n≤cs.length):
 cL P G o s (.agg ((cs.drop off).take n)):=
 fun _ a w β ro ag=>by
  have h:=ag.eval x
  rw[hx]at h;generalize he:a.eval x=c at h
  cases h with
  |agg _ c ai hc=>
   unfold vU at aH
   split at aH
   ·rename_i fs hu
    split at aH
    ·rename_i fd hf
     split at aH
     ·simp at aH
     ·split at aH
      ·rename_i m bS
       simp only[Option.some.injEq,Prod.mk.injEq]at aH;obtain⟨rfl,rfl⟩:=aH;obtain⟨g1,g2⟩:=B6 bS w;refine⟨.agg (c.extract fd.offset (fd.offset+m)),?_,.agg _ _ (by simp;omega) fun j y af=>?_⟩
       ·simp[execOp,an,he,Instr.field,run_underlying hu,hf,asAgg,part,g1,g2]
       ·rw[List.getElem?_take]at af
        split at af
        ·rename_i Qi
         rw[List.getElem?_drop]at af
         have:=hc _ y af
         have aa:fd.offset+j<c.size:=by omega
         have ae:j<(c.extract fd.offset (fd.offset+m)).size:=by simp;omega
         simp only[Array.getD,ae,dif_pos];simpa[aa]using this
        ·cases af
      ·cases aH
    ·cases aH
   ·cases aH
def places(P:Program)(t:TypeId):Option (Nat→Option (Nat × Nat)):=
 match P.underlying t with
 |some (.struct fs)=>if fs.toList.all fun f=>(P.info? f.type).isSome then some fun i=>(fs.toList.map fun f=>(f.offset,((P.info? f.type).map (·.size)).getD 0))[i]? else none
 |some (.array _ e)=>match P.info? e with
  |some inf=>some fun i=>some (i*inf.size,inf.size)
  |none=>none
 |_=>none
def jX(place:Nat→Option (Nat × Nat)):List aC→List (Nat × aC)→Option (List aC)
 |cs,[]=>some cs
 |cs,(i,v)::rest=>match place i with
  |some (off,size)=>if(cP v).length=size∧off+size≤cs.length then jX place (eh cs off (cP v)) rest else none
  |none=>none
theorem Qj(off:Nat): ∀(vs:List Value) (k:Nat) (cs:Array Value),off+k+vs.length≤cs.size→
 ((vs.zipIdx k).foldl (fun(cs:Array Value) (x:Value × Nat)=>cs.setIfInBounds (off+x.2) x.1) cs).toList=eh cs.toList (off+k) vs
 |[],k,cs,h=>by simp[eh]
 |v::vs,k,cs,h=>by
  simp only[List.zipIdx_cons,List.foldl_cons];rw[Qj off vs (k+1) (cs.setIfInBounds (off+k) v) (by simp at h⊢;omega)]
  have e:=list_seg_step cs.toList (off+k) v vs (by simp at h⊢;omega)
  simp only[eh,Array.toList_setIfInBounds,←Nat.add_assoc]at*;simp only[List.append_assoc]at e;rw[e];simp[Nat.add_assoc]
theorem Cj{place place':Nat→Option (Nat × Nat)}(qS: ∀i p,place i=some p→place' i=some p){w:World}{ro:Nat→Prop}{σ:Heap}{β:Nat→Value}{N:Nat}(bd:gX w ro σ β N):
    ∀{ps:List (Nat × aC)} {qs:List (Nat × Value)} {cs ds:List aC} {xs:Array Value},jX place cs ps=some ds→ps.map (·.1)=qs.map (·.1)→(∀(j:Nat) (p:Nat × aC) (q:Nat × Value),ps[j]? =some p→qs[j]? =some q→bp w ro σ β N p.2 q.2∧(cP p.2).all (eB σ)=true)→
    xs.size=cs.length→(∀j x,cs[j]? =some x→bp w ro σ β N x (xs.getD j undef))→
    ∃ys,Instr.fill place' xs qs=some ys∧ys.size=ds.length∧∀j x,ds[j]? =some x→bp w ro σ β N x (ys.getD j undef)
  |[],qs,cs,ds,xs,hf,aj,_,ai,hx=>by
    simp[jX]at hf;subst hf
    have:qs=[]:=by cases qs with
      |nil=>rfl
      |cons=>simp at aj
    subst this;exact⟨xs,by simp[Instr.fill],ai,hx⟩
  |(i,v)::ps,[],cs,ds,xs,hf,aj,_,ai,hx=>by simp at aj
  |(i,v)::ps,(yR,u)::qs,cs,ds,xs,hf,aj,ag,ai,hx=>by
    simp only[List.map_cons,List.cons.injEq]at aj;obtain⟨rfl,aj⟩:=aj;simp only[jX]at hf
    split at hf
    · rename_i off size ak
      split at hf
      · rename_i hc
        obtain⟨Ck,IY⟩:=hc
        have dy:bp w ro σ β N v u:=(ag 0 (i,v) (i,u) rfl rfl).1
        have dZ:(cP v).all (eB σ)=true:=(ag 0 (i,v) (i,u) rfl rfl).2
        obtain⟨g1,g2,_⟩:=dy.cP dZ bd
        have Qk:=Qj off u.cells.toList 0 xs (by simp;omega)
        simp only[Nat.add_zero]at Qk
        have aZ:=Cj qS bd (ps:=ps) (qs:=qs) (cs:=eh cs off (cP v)) (ds:=ds) (xs:=(eh xs.toList off u.cells.toList).toArray) hf aj (fun j p q aa ae=>ag (j+1) p q aa ae)
          (by rw[List.size_toArray,pL _ _ _ (by simp;omega),pL _ _ _ (by omega)];simpa using ai) (fun j x af=>by
            have:=IC (bp w ro σ β N) undef (cs:=cs) (vs:=cP v) (xs:=xs.toList) (ys:=u.cells.toList) (off:=off) (by simp;omega) (by simp;omega) (by omega)
              (fun j x af=>by have:=hx j x af;simpa[Array.getD_eq_getD_getElem?,List.getD]using this) (fun j x af=>by have:=g2 j x af;simpa[Array.getD_eq_getD_getElem?,List.getD]using this) j x af
            simpa[Array.getD_eq_getD_getElem?,List.getD]using this)
        obtain⟨ys,aa,ae,av⟩:=aZ;refine⟨ys,?_,ae,av⟩
        rw[Instr.fill.eq_2,qS _ _ ak];simp only;rw[if_neg (by simp;omega)]
        have zb2:Array.foldl (fun cs x=>match x with
            |(c,j)=>cs.setIfInBounds (off+j) c) xs u.cells.zipIdx=(eh xs.toList off u.cells.toList).toArray:=by
          apply Array.ext';rw[←Qk,←Array.foldl_toList];simp
        rw[zb2];exact aa
      · cases hf
    · cases hf
theorem run_places(w:World): ∀l:List Field,(l.all fun f=>(P.info? f.type).isSome)=true→(l.mapM (fun f=>do
    let n ←sizeOf f.type
    pure (f.offset,n):Field→Sem (Nat × Nat))).run P w= .ok (l.map fun f=>(f.offset,((P.info? f.type).map (·.size)).getD 0)) w
  |[],_=>by simp
  |f::r,h=>by
    simp only[List.all_cons,Bool.and_eq_true]at h
    have aZ:=run_places w r h.2
    cases hi:P.info? f.type with
    |none=>simp[hi]at h
    |some inf=>
      have aa:(sizeOf f.type).run P w= .ok inf.size w:=by simp[sizeOf,typeInfo,hi]
      simp only[List.mapM_cons,Sem.run_bind,aa,Result.andThen_ok,Sem.run_pure,aZ];simp[hi]
theorem run_build{t:TypeId}{pl:Nat→Option (Nat × Nat)}(ak:places P t=some pl){zs:List Value}(aV:zeroCells P t=some zs){parts:Array (Nat × Value)}{ys:Array Value}(hf:Instr.fill pl zs.toArray parts.toList=some ys)(w:World):
    (Instr.build t parts).run P w= .ok (.agg ys) w:=by
  obtain⟨z,jV,ou,_⟩:=yG aV w;unfold places at ak
  split at ak
  · rename_i fs hu
    split at ak
    · rename_i dZ
      simp only[Option.some.injEq]at ak;subst ak
      have aa:=run_places w fs.toList dZ
      have ae:(fs.mapM (fun f=>do
          let n ←sizeOf f.type
          pure (f.offset,n):Field→Sem (Nat × Nat))).run P w= .ok (fs.toList.map fun f=>(f.offset,((P.info? f.type).map (·.size)).getD 0)).toArray w:=by
        rw[Array.mapM_eq_mapM_toList];simp only[Sem.run_map,aa];rfl
      simp only[Instr.build,Sem.run_bind,jV,Result.andThen_ok,run_underlying hu,ae,ou]
      have av:(fun(x:Nat)=>(fs.toList.map fun f=>(f.offset,((P.info? f.type).map (·.size)).getD 0)).toArray[x]?)=(fun(i:Nat)=>(fs.toList.map fun f=>(f.offset,((P.info? f.type).map (·.size)).getD 0))[i]?):=by
        funext i;simp
      rw[av,hf];rfl
    · cases ak
  · rename_i n e hu
    split at ak
    · rename_i inf hi
      simp only[Option.some.injEq]at ak;subst ak
      have aa:(sizeOf e).run P w= .ok inf.size w:=by simp[sizeOf,typeInfo,hi]
      simp only[Instr.build,Sem.run_bind,jV,Result.andThen_ok,run_underlying hu,aa,ou,hf];rfl
    · cases ak
  · cases ak
theorem IZ{w:World}{ro:Nat→Prop}{σ:Heap}{β:Nat→Value}{N:Nat}{zs:List Value}(dZ:zs.all Value.oneCell'=true): ∀(j:Nat) (x:aC),(zs.map fun z=>aC.au (.v z))[j]? =some x→bp w ro σ β N x (zs.toArray.getD j undef):=by
 intro j x af
 rw[List.getElem?_map]at af
 cases qI:zs[j]? with
 |none=>simp[qI]at af
 |some y=>
  simp[qI]at af;subst af
  have:y.oneCell'=true:=by
   rw[List.all_eq_true]at dZ;exact dZ y (List.mem_of_getElem? qI)
  simpa[qI]using bp.au (w:=w) (ro:=ro) (σ:=σ) (β:=β) (N:=N) _ _ (.v y this)
theorem I0{E:Entry}{a:Act}{w:World}{β:Nat→Value}{ro:Nat→Prop}(ag:c3 E G s a w β ro){parts:Array (Nat × Operand)}{ps:List (Nat × aC)}(qT:parts.toList.map (fun p=>(p.1,aI G s p.2))=ps)
 (dZ:ps.all (fun p=>(cP p.2).all (eB s.heap))=true):
 ps.map (·.1)=(parts.map fun p=>(p.1,a.eval p.2)).toList.map (·.1)∧
 ∀(j:Nat) (p:Nat × aC) (q:Nat × Value),ps[j]? =some p→(parts.map fun p=>(p.1,a.eval p.2)).toList[j]? =some q→bp w ro s.heap β s.next p.2 q.2∧(cP p.2).all (eB s.heap)=true:=by
 subst qT
 refine⟨by simp,fun j p q aa ae=>?_⟩
 have ak:(cP p.2).all (eB s.heap)=true:=by
  rw[List.all_eq_true]at dZ;exact dZ p (List.mem_of_getElem? aa)
 rw[List.getElem?_map]at aa
 rw[Array.toList_map,List.getElem?_map]at ae
 cases af:parts.toList[j]? with
 |none=>simp[af]at aa
 |some y=>
  simp[af]at aa ae;subst aa ae;exact⟨ag.eval _,ak⟩
theorem Ql(t:TypeId)(parts:Array (Nat × Operand))(an:o.op= .build t parts){pl:Nat→Option (Nat × Nat)}(ak:places P t=some pl){zs:List Value}(aV:zeroCells P t=some zs)(r5:zs.all Value.oneCell'=true)
 {ps:List (Nat × aC)}(qT:parts.toList.map (fun p=>(p.1,aI G s p.2))=ps)(dZ:ps.all (fun p=>(cP p.2).all (eB s.heap))=true){ds:List aC}(hf:jX pl (zs.map fun z=>.au (.v z)) ps=some ds):
 cL P G o s (.agg ds):=
 fun _ a w β ro ag=>by
  obtain⟨aa,ae⟩:=I0 ag qT dZ;obtain⟨ys,g1,g2,g3⟩:=Cj (place':=pl) (fun _ _ h=>h) ag.heap hf aa ae (xs:=zs.toArray) (by simp) (IZ r5)
  refine⟨.agg ys,?_,.agg _ _ g2 g3⟩
  have ad:=run_build (P:=P) ak aV g1 w
  simp only[execOp,an,Sem.run_bind]
  erw [ad]
  rfl
end
end Go.aK
namespace Go.aK
open Go
mutual
def dW(id:Nat):aC→aC
 | .au x=>.au x
 | .agg cs=>.agg (ed id cs)
 | .tuple cs=>.tuple (ed id cs)
 | .ptr k off=>if k=id then .top else .ptr k off
 | .dx k off=>if k=id then .top else .dx k off
 | .cV k i off=>if k=id then .top else .cV k i off
 | .aM k=>if k=id then .top else .aM k
 | .fn f p q=>.fn f (ed id p) (ed id q)
 | .ref k=>if k=id then .top else .ref k
 | .top=>.top
def ed(id:Nat):List aC→List aC
 |[]=>[]
 |x::r=>dW id x::ed id r
end
def du(id:Nat):Heap→Heap
 |[]=>[]
 |(k,.box t cs)::r=>if k=id then du id r else(k,.box t (ed id cs))::du id r
 |(k,.row z t n es)::r=>if k=id then du id r else(k,.row z t n es)::du id r
 |(k,.bK bM)::r=>if k=id then du id r else(k,.bK bM)::du id r
def ep(id:Nat):eg→eg
 | .box t cs=>.box t (ed id cs)
 | .row z t n es=>.row z t n es
 | .bK bM=>.bK bM
theorem hW(d:Nat): ∀(l:List aC),(ed d l).length=l.length
 |[]=>rfl
 |x::r=>by simp[ed,hW d r]
theorem hH(d:Nat): ∀{l:List aC} {j:Nat} {x:aC},(ed d l)[j]? =some x→∃y,l[j]? =some y∧x=dW d y
 |[],j,x,h=>by simp[ed]at h
 |y::r,j,x,h=>by
  cases j with
  |zero=>simp[ed]at h;exact⟨y,by simp,h.symm⟩
  |succ j=>simp[ed]at h;simpa using hH d h
theorem pR(id:Nat): ∀(σ:Heap) (k:Nat),aD (du id σ) k=if k=id then none else(aD σ k).map (ep id)
 |[],k=>by simp[du,aD]
 |(j,.box t cs)::r,k=>by
  have aZ:=pR id r k
  by_cases af:j=id
  ·subst af
   by_cases aj:k=j
   ·subst aj;simpa[du]using aZ
   ·simp[du,aD,aZ,aj,Ne.symm aj]
  ·by_cases aj:j=k
   ·subst aj;simp[du,aD,af,ep]
   ·simp[du,aD,af,aj,aZ]
 |(j,.row z t n es)::r,k=>by
  have aZ:=pR id r k
  by_cases af:j=id
  ·subst af
   by_cases aj:k=j
   ·subst aj;simpa[du]using aZ
   ·simp[du,aD,aZ,aj,Ne.symm aj]
  ·by_cases aj:j=k
   ·subst aj;simp[du,aD,af,ep]
   ·simp[du,aD,af,aj,aZ]
 |(j,.bK bM)::r,k=>by
  have aZ:=pR id r k
  by_cases af:j=id
  ·subst af
   by_cases aj:k=j
   ·subst aj;simpa[du]using aZ
   ·simp[du,aD,aZ,aj,Ne.symm aj]
  ·by_cases aj:j=k
   ·subst aj;simp[du,aD,af,ep]
   ·simp[du,aD,af,aj,aZ]
theorem jg(id:Nat)(o:eg):(ep id o).live=o.live:=by cases o<;>rfl
section
variable {P:Program} {G:a8} {s:aO} {E:Entry} {a:Act} {w w':World} {β:Nat→Value} {ro:Nat→Prop}
theorem c3.renew(h:c3 E G s a w β ro)(id:Nat)(ad:s.base≤id)(bI:id<s.next){t0:TypeId}{n0:Nat}{yS:List (List a1)}(bb:aD s.heap id=some (.row false t0 n0 yS))(o:eg)(val:Value)
 (oo:w'.os=w.os)(oq:w'.tape=w.tape)(kk:w'.output=w.output)(bQ:w.heap.size≤w'.heap.size)(hw: ∀b,b<w.heap.size→b5 (β id)≠some b→w'.heap[b]? =w.heap[b]?)
 (gF: ∀b,b5 val=some b→b5 (β id)=some b∨w.heap.size≤b)(_hlive:o.live=true)
 (dj:kN w' ro ((id,o)::du id s.heap) (gN β id val) s.next id o):
 c3 E G ⟨ed id s.cO,(id,o)::du id s.heap,s.next,s.base⟩ a w' (gN β id val) ro:=by
 have cc: ∀b,ro b→w'.heap[b]? =w.heap[b]? :=fun b ag=>hw b (h.heap.lt b ag) fun ad=>h.heap.fe b ag ⟨id,_,bb,rfl,ad⟩
 have ah: ∀k,k≠id→aD ((id,o)::du id s.heap) k=(aD s.heap k).map (ep id):=fun k aj=>by simp[aD,Ne.symm aj,pR,aj]
 have tF:aD ((id,o)::du id s.heap) id=some o:=by simp[aD]
 have key: ∀x c,bp w ro s.heap β s.next x c→bp w' ro ((id,o)::du id s.heap) (gN β id val) s.next (dW id x) c:=by
  intro x c hx
  induction hx with
  |au x c hx=>exact .au x c (hx.keep cc fun _ h=>h)
  |agg cs c ai _ aZ=>
   refine .agg _ c (by rw[hW];exact ai) fun j x af=>?_
   obtain⟨y,ax,rfl⟩:=hH id af;exact aZ j y ax
  |tuple cs c ai _ aZ=>
   refine .tuple _ c (by rw[hW];exact ai) fun j x af=>?_
   obtain⟨y,ax,rfl⟩:=hH id af;exact aZ j y ax
  |ptr k off c ar ak=>
   simp only[dW]
   split
   ·exact .top _
   ·rename_i aj
    refine .ptr k off c ar fun t cs bm=>?_
    rw[c0 _ _ aj];rw[ah k aj]at bm
    cases ai:aD s.heap k with
    |none=>simp[ai]at bm
    |some p=>
     cases p with
     |box bz cs'=>exact ak bz cs' ai
     |row=>simp[ai,ep]at bm
     |bK=>simp[ai,ep]at bm
  |dx k off c ar ak=>
   simp only[dW]
   split
   ·exact .top _
   ·rename_i aj
    refine .dx k off c ar fun t cs bm=>?_
    rw[c0 _ _ aj];rw[ah k aj]at bm
    cases ai:aD s.heap k with
    |none=>simp[ai]at bm
    |some p=>
     cases p with
     |box bz cs'=>exact ak bz cs' ai
     |row=>simp[ai,ep]at bm
     |bK=>simp[ai,ep]at bm
  |cV k i off c ar ak=>
   simp only[dW]
   split
   ·exact .top _
   ·rename_i aj
    refine .cV k i off c ar fun z t n es bm=>?_
    rw[c0 _ _ aj];rw[ah k aj]at bm
    cases ai:aD s.heap k with
    |none=>simp[ai]at bm
    |some p=>
     cases p with
     |box bz cs'=>simp[ai,ep]at bm
     |bK=>simp[ai,ep]at bm
     |row ij bz cH dN=>
      simp only[ai,Option.map_some,ep,Option.some.injEq,eg.row.injEq]at bm;obtain⟨rfl,rfl,rfl,rfl⟩:=bm;exact ak _ _ _ _ ai
  |aM k c ar ak=>
   simp only[dW]
   split
   ·exact .top _
   ·rename_i aj
    refine .aM k c ar fun z t n es bm=>?_
    rw[c0 _ _ aj];rw[ah k aj]at bm
    cases ai:aD s.heap k with
    |none=>simp[ai]at bm
    |some p=>
     cases p with
     |box bz cs'=>simp[ai,ep]at bm
     |bK=>simp[ai,ep]at bm
     |row ij bz cH dN=>exact ak _ _ _ _ ai
  |fn f p q c d aa ae _ _ gZ ha=>
   refine .fn f _ _ c d (by rw[hW];exact aa) (by rw[hW];exact ae) (fun j x af=>?_) (fun j x af=>?_)
   ·obtain⟨y,ax,rfl⟩:=hH id af
    exact gZ j y ax
   ·obtain⟨y,ax,rfl⟩:=hH id af
    exact ha j y ax
  |ref k c ar ak=>
   simp only[dW]
   split
   ·exact .top _
   ·rename_i aj
    refine .ref k c ar fun bM bm=>?_
    rw[c0 _ _ aj];rw[ah k aj]at bm
    cases ai:aD s.heap k with
    |none=>simp[ai]at bm
    |some p=>
     cases p with
     |box=>simp[ai,ep]at bm
     |row=>simp[ai,ep]at bm
     |bK lb=>exact ak lb ai
  |top c=>exact .top c
 have dJ: ∀k p,k≠id→aD ((id,o)::du id s.heap) k=some p→∃q,aD s.heap k=some q∧p=ep id q:=by
  intro k p aj bm;rw[ah k aj]at bm
  cases ai:aD s.heap k with
  |none=>simp[ai]at bm
  |some q=>simp[ai]at bm;exact⟨q,rfl,bm.symm⟩
 refine⟨h.defers,by simpa[hW]using h.size,fun i x hx=>?_,⟨fun k p aj=>?_,fun k bk p fW b aj ey ak gG bf en=>?_,fun b ag=>?_,fun b ag=>Nat.lt_of_lt_of_le (h.heap.lt b ag) bQ⟩,
  h.h3.keep cc fun _ h=>h,?_,h.base⟩
 ·obtain⟨y,ax,rfl⟩:=hH id hx
  exact key _ _ (h.slot i y ax)
 ·by_cases br:k=id
  ·subst br
   rw[tF]at aj;simp only[Option.some.injEq]at aj;subst aj;exact dj
  ·obtain⟨q,aJ,rfl⟩:=dJ k p br aj
   have gH:=h.heap.c6 k q aJ
   have b7:q.live=true→∀b,b5 (β k)=some b→w'.heap[b]? =w.heap[b]? :=fun ar b bf=>
    hw b (gH.hB ar bf) fun jD=>br (h.heap.inj k id q _ b aJ bb ar rfl bf jD)
   cases gH with
   |box t cs b arr aa ae av aQ=>
    refine .box t _ b arr (by rw[c0 _ _ br];exact aa) ((b7 rfl b (by rw[aa];rfl)).trans ae) (by rw[hW];exact av) fun j x af=>?_
    obtain⟨y,ax,rfl⟩:=hH id af;exact key _ _ (aQ j y ax)
   |row t n es xs aa ae av=>exact .row t n es xs (by rw[c0 _ _ br];exact aa.keep (fun b ad=>b7 rfl b ad) bQ) ae fun j x af=>(av j x af).keep cc fun _ h=>h
   |gb t n es aa=>exact .gb t n es (by rw[c0 _ _ br];exact aa.keep cc fun _ h=>h)
   |bK bM b o aa ae av=>exact .bK bM b o (by rw[c0 _ _ br];exact aa) ((b7 rfl b aa).trans ae) (by rw[c0 _ _ br];exact bM.mono _ _ _ _ (fun x c h=>h.keep cc fun _ h=>h) av)
 ·by_cases br:k=id
  ·by_cases gI:bk=id
   ·rw[br,gI]
   ·subst br
    rw[dP]at bf;rw[c0 _ _ gI]at en;obtain⟨q,aJ,rfl⟩:=dJ bk fW gI ey;rw[jg]at gG
    have ae:=(h.heap.c6 bk q aJ).hB gG en
    rcases gF b bf with aa|aa
    ·exact(h.heap.inj bk k q _ b aJ bb gG rfl en aa).symm
    ·omega
  ·obtain⟨q,aJ,rfl⟩:=dJ k p br aj
   rw[jg]at ak;rw[c0 _ _ br]at bf
   by_cases gI:bk=id
   ·subst gI
    rw[dP]at en
    have ae:=(h.heap.c6 k q aJ).hB ak bf
    rcases gF b en with aa|aa
    ·exact h.heap.inj k bk q _ b aJ bb ak rfl bf aa
    ·omega
   ·obtain⟨q',tG,rfl⟩:=dJ bk fW gI ey
    rw[jg]at gG;rw[c0 _ _ gI]at en;exact h.heap.inj k bk q q' b aJ tG ak gG bf en
 ·rintro⟨k,p,aj,ak,bf⟩
  by_cases br:k=id
  ·subst br
   rw[dP]at bf
   rcases gF b bf with aa|aa
   ·exact h.heap.fe b ag ⟨k,_,bb,rfl,aa⟩
   ·have:=h.heap.lt b ag;omega
  ·obtain⟨q,aJ,rfl⟩:=dJ k p br aj
   rw[jg]at ak;rw[c0 _ _ br]at bf;exact h.heap.fe b ag ⟨k,q,aJ,ak,bf⟩
 ·have t:=h.trans
  refine⟨oo.trans t.os,oq.trans t.tape,kk.trans t.output,Nat.le_trans t.size bQ,fun b hC gf=>?_,t.jb,t.jR,?_,fun k aj p bm=>?_,fun k p bm=>?_,t.le⟩
  ·by_cases jD:b5 (β id)=some b
   ·rcases t.gY b ⟨id,_,bb,rfl,jD⟩with hc|hc
    ·exact absurd hc gf
    ·omega
   ·rw[hw b (Nat.lt_of_lt_of_le hC t.size) jD]
    exact t.frame b hC gf
  ·rintro b ⟨k,p,aj,ak,bf⟩
   by_cases br:k=id
   ·subst br
    rw[dP]at bf
    rcases gF b bf with aa|aa
    ·exact t.gY b ⟨k,_,bb,rfl,aa⟩
    ·exact .inr (Nat.le_trans t.size aa)
   ·obtain⟨q,aJ,rfl⟩:=dJ k p br aj
    rw[jg]at ak;rw[c0 _ _ br]at bf;exact t.gY b ⟨k,q,aJ,ak,bf⟩
  ·have br:k≠id:=by have:=h.base;omega
   obtain⟨q,aJ,rfl⟩:=dJ k p br bm;rw[c0 _ _ br];exact t.dJ k aj q aJ
  ·by_cases br:k=id
   ·subst br;exact bI
   ·obtain⟨q,aJ,rfl⟩:=dJ k p br bm
    exact t.new k q aJ
def chunk{α:Type}(n:Nat):Nat→List α→List (List α)
 |0,_=>[]
 |k+1,l=>l.take n::chunk n k (l.drop n)
theorem yT{α:Type}(n:Nat): ∀(k:Nat) (l:List α),(chunk n k l).length=k
 |0,_=>rfl
 |k+1,l=>by simp[chunk,yT n k]
theorem Qm{α:Type}(n:Nat): ∀(k:Nat) (l:List α),l.length=k*n→∀e∈chunk n k l,e.length=n
 |0,_,_,e,he=>by simp[chunk]at he
 |k+1,l,h,e,he=>by
  rw[Nat.succ_mul]at h;simp only[chunk,List.mem_cons]at he
  rcases he with rfl|he
  ·simp;omega
  ·exact Qm n k (l.drop n) (by simp;omega) e he
theorem Qn{α:Type}(n:Nat): ∀(k:Nat) (l:List α),l.length=k*n→(chunk n k l).flatten=l
 |0,l,h=>by
  have:l=[]:=List.eq_nil_of_length_eq_zero (by simpa using h)
  simp[chunk,this]
 |k+1,l,h=>by
  rw[Nat.succ_mul]at h;simp only[chunk,List.flatten_cons];rw[Qn n k (l.drop n) (by simp;omega),List.take_append_drop]
theorem h2.Cl{w:World}{t:TypeId}{n:Nat}{v:Value}{len:Nat}{xs:List Value}(h:w.ownsRow 0 t n v len xs):h2 w t n v len xs:=by
 obtain⟨ar,ag⟩:=h
 refine⟨ar,?_⟩
 rcases ag with⟨aa,ae⟩|⟨g,cap,cur,aw,_,ah,hle,h5,dH,aH⟩
 ·exact .inl ⟨⟨none,aa,fun _ h=>(by cases h)⟩,ae⟩
 ·by_cases hc:cap=0
  ·subst hc
   have:len=0:=by omega
   subst this;exact .inl ⟨⟨_,aw,fun a a6=>(by cases a6;exact(Array.getElem?_eq_some_iff.1 ah).1)⟩,rfl⟩
  ·exact .inr ⟨g,cap,cur,aw,by omega,ah,hle,h5,dH,aH⟩
def vV(P:Program)(G:a8)(o:Oper)(s:aO)(t:TypeId)(n:Nat)(es:List (List a1)):Prop:=
 (∀e∈es,e.length=n)∧∀E a w β ro,c3 E G s a w β ro→∃v xs w',(execOp a.eval o).run P w= .ok (.value v) w'∧w'.ownsRow 0 t n v es.length xs∧w.grownBy w' none∧(∀b,b5 v=some b→w.heap.size≤b)∧
  ∀j x,es.flatten[j]? =some x→cN w ro x (xs.getD j undef)
theorem dO.newRow{o:Oper}{t:TypeId}{n:Nat}{es:List (List a1)}(ad:s.base≤s.next)(bd:vV P G o s t n es):
 dO P G o s ({s with heap:=(s.next,.row false t n es)::s.heap,next:=s.next+1}.put o.dst (.aM s.next)):=by
 obtain⟨hn,h⟩:=bd
 intro E a w ⟨β,ro,ag⟩ K Q hK
 obtain⟨v,xs,w',cn,hs,cQ,gF,eV⟩:=h E a w β ro ag
 unfold Oper.wp
 rw[cn]
 have jc:aD s.heap s.next=none:=by
  cases ah:aD s.heap s.next with
  |none=>rfl
  |some p=>have:=ag.trans.new _ _ ah;omega
 have hw: ∀b,b<w.heap.size→w'.heap[b]? =w.heap[b]? :=fun b ad=>cQ.block b ad (by simp)
 have cc: ∀b,ro b→w'.heap[b]? =w.heap[b]? :=fun b ad=>hw b (ag.heap.lt b ad)
 have fb:c3 E G {s with heap:=(s.next,.row false t n es)::s.heap,next:=s.next+1} a w' (gN β s.next v) ro:=by
  refine ag.new s.next jc ad (Nat.le_refl _) _ v cQ.os cQ.tape cQ.output cQ.size hw gF rfl ?_
  exact .row t n es xs (by rw[dP];exact .Cl hs) hn fun j x af=>(eV j x af).keep cc fun _ h=>h
 refine hK _ _ ⟨_,ro,fb.put o.dst _ _ ?_⟩
 exact .aM _ _ (Nat.lt_succ_self _) fun z bz cH dN _=>(dP _ _ _).symm
theorem zb3{o:Oper}(t:TypeId)(len:Nat)(parts:Array (Nat × Operand))(an:o.op= .buildSlice t len parts){e n:Nat}(hu:P.underlying t=some (.slice e))(bQ:(P.info? e).map (·.size)=some n)
 {zs:List Value}(aV:zeroCells P e=some zs)(r5:zs.all Value.oneCell'=true)(l1:zs.length=n)(hlen:0<len*n∧len*n≤16777216)
 {ps:List (Nat × aC)}(qT:parts.toList.map (fun p=>(p.1,aI G s p.2))=ps)(dZ:ps.all (fun p=>(cP p.2).all (eB s.heap))=true)
 {ds:List aC}(hf:jX (fun i=>some (i*n,n)) ((List.replicate len (zs.map fun z=>aC.au (.v z))).flatten) ps=some ds){rs:List a1}(gg:iE ds=some rs):
 vV P G o s e n (chunk n len rs):=by
 have mF:ds.length=len*n:=by
  have: ∀(ps:List (Nat × aC)) (cs ds:List aC),jX (fun i=>some (i*n,n)) cs ps=some ds→ds.length=cs.length:=by
   intro ps
   induction ps with
   |nil=>intro cs ds h;simp[jX]at h;rw[h]
   |cons p r aZ=>
    intro cs ds h;obtain⟨i,v⟩:=p;simp only[jX]at h
    split at h
    ·rename_i hc
     rw[aZ _ _ h,pL _ _ _ (by omega)]
    ·cases h
  rw[this ps _ _ hf,jS (n:=n) (fun e he=>by rw[List.mem_replicate]at he;rw[he.2];simpa using l1)]
  simp
 have Qo:rs.length=len*n:=by rw[←mF,B8 gg];simp
 refine⟨Qm n len rs Qo,fun E a w β ro ag=>?_⟩
 obtain⟨aa,ae⟩:=I0 ag qT dZ
 obtain⟨z,jV,ou,_⟩:=yG aV w
 have eV:(List.replicate len (zs.map fun z=>aC.au (.v z))).flatten.length=len*n:=by
  rw[jS (n:=n) (fun e he=>by rw[List.mem_replicate]at he;rw[he.2];simpa using l1)];simp
 have zb4:zs.toArray.size=n:=by simpa using l1
 have qU:0<n:=by
  rcases Nat.eq_zero_or_pos n with h|h
  ·rw[h]at hlen;simp at hlen
  ·exact h
 obtain⟨ys,g1,g2,g3⟩:=Cj (place':=fun i=>some (i*n,n)) (fun _ _ h=>h) ag.heap hf aa ae (xs:=(Array.range (len*n)).map fun x=>zs.toArray[x%zs.toArray.size]!) (by rw[eV];simp) (fun j x af=>by
  have cJ:j<len*n:=by rw[←eV];exact(List.getElem?_eq_some_iff.1 af).1
  have hm:j=(j/ n)*n+j%n:=by rw[Nat.mul_comm];exact(Nat.div_add_mod j n).symm
  have nq:j%n<n:=Nat.mod_lt _ qU
  have nr:j/ n<len:=by rw[Nat.div_lt_iff_lt_mul qU];exact cJ
  rw[hm,qF (n:=n) (fun e he=>by rw[List.mem_replicate]at he;rw[he.2];simpa using l1) (i:=j/ n) (e:=zs.map fun z=>aC.au (.v z)) (by simp[nr]) (j%n) nq]at af
  have:=IZ (w:=w) (ro:=ro) (σ:=s.heap) (β:=β) (N:=s.next) r5 (j%n) x af
  have aA:(Array.map (fun x=>zs.toArray[x%zs.toArray.size]!) (Array.range (len*n))).getD j undef=zs.toArray.getD (j%n) undef:=by
   have av:j%n<zs.length:=by omega
   simp[cJ,l1,List.getElem?_eq_getElem av]
  rw[aA]
  exact this)
 have lX:ys.toList.length=(chunk n len rs).length*n:=by rw[yT];simpa[mF]using g2
 refine⟨.slice (some ⟨w.heap.size,0,none⟩) len len,ys.toList,w.alloc (.cells ys e),?_,?_,World.grownBy_alloc w _ none,fun b bf=>?_,fun j x af=>?_⟩
 ·have yU:(sizeOf e).run P w= .ok n w:=by
   cases hi:P.info? e with
   |none=>simp[hi]at bQ
   |some i=>simp[hi]at bQ;simp[sizeOf,typeInfo,hi,bQ]
  have b7: ¬len*n>2^24:=by omega
  have jh: ¬len*n=0:=by omega
  simp only[execOp,an,Sem.run_bind,Instr.buildSlice,run_underlying hu,Result.andThen_ok,yU,if_neg b7,if_neg jh,jV,Sem.run_pure,ou]
  erw [g1]
  simp[newRow]
 ·rw[yT]
  exact World.ownsRow_lit w ys len (Nat.zero_le _) (by simp only[maxLen];have:=Nat.le_mul_of_pos_right len qU;omega) (by simpa[mF]using g2)
 ·simp only[b5]at bf
  split at bf
  ·cases bf
  ·simp at bf;omega
 ·rw[Qn n len rs Qo]at af
  have av:=g3 j (.au x) (by rw[B8 gg];simp[af])
  cases av with
  |au _ _ av=>
   have:ys.toList.getD j undef=ys.getD j undef:=by simp[List.getD,Array.getD_eq_getD_getElem?]
   rw[this];exact av
end
end Go.aK
