/- The AV calculus, part G: code, loops, the beginning and the end of a call. Conditions: none. -/
import Derived.Test.YtmkpmgfieagphaaDoorKSMf
namespace Go.aG
open Go
def lift(E:Entry)(G:aY)(Q:Exit→aJ→Prop):Exit→Act→World→Prop:=fun e a w=>∃s,Q e s∧Rel E G s a w
def bL(P:Program)(G:aY)(c:Code)(Q:Exit→aJ→Prop)(s:aJ):Prop:=∀E a w,Rel E G s a w→c.wp P (lift E G Q) a w
def b7(P:Program)(G:aY)(ops:Array Oper)(Q:Exit→aJ→Prop)(l:List Oper)(s:aJ):Prop:=∀E a w,Rel E G s a w→wpList P ops (lift E G Q) l a w
section
variable {P:Program} {G:aY} {Q:Exit→aJ→Prop} {s:aJ}
theorem bL.region{id:Nat}{l:List Oper}(h:b7 P G l.toArray Q l s):bL P G (.region id l.toArray false) Q s:=fun E a w ae=>wp_region_lit (h E a w ae)
theorem b7.nil{ops:Array Oper}(h:Q .normal s):b7 P G ops Q [] s:=fun _ _ _ ae=>wpList_nil ⟨s,h,ae⟩
theorem b7.cons{ops:Array Oper}{o:Oper}{rest:List Oper}{bd:aJ}(ag:o.guard=none)(h:dO P G o s bd)(k:b7 P G ops Q rest bd):b7 P G ops Q (o::rest) s:=
 fun E a w ae=>wpList_plain ag fun _ hK=>h E a w ae _ _ fun aW w' dC=>hK aW w' (k E aW w' dC)
def k3(ops:Array Oper)(j:Nat):Option Nat:=(ops[j]?).bind (·.dst)
theorem Dy{ops:Array Oper}{E:Entry}{a:Act}{w:World}(ae:Rel E G s a w){j d:Nat}(ai:k3 ops j=some d){b:Bool}(hd:s.cl[d]? =some (.au (.v (.bool b)))):yielded ops a.tmps j=some b:=by
 obtain⟨β,ro,h⟩:=ae
 have ah:=bk.val (h.slot d _ hd)
 have bz:d<a.tmps.size:=by rw[h.size];exact(List.getElem?_eq_some_iff.1 hd).1
 unfold k3 at ai
 unfold yielded
 rw[ai]
 simp only[Option.bind_some]
 simp[bz]at ah
 simp[bz,ah]
theorem JH{ops:Array Oper}{E:Entry}{a:Act}{w:World}(ae:Rel E G s a w){j d:Nat}(ai:k3 ops j=some d){cs:List az}(hd:s.cl[d]? =some (.tuple cs)):yielded ops a.tmps j=none:=by
 obtain⟨β,ro,h⟩:=ae
 have ah:=h.slot d _ hd
 have bz:d<a.tmps.size:=by rw[h.size];exact(List.getElem?_eq_some_iff.1 hd).1
 unfold k3 at ai
 unfold yielded
 rw[ai]
 simp only[Option.bind_some]
 simp[bz]at ah
 generalize a.tmps[d]=c at ah
 have aH:a.tmps[d]? =some a.tmps[d]:=by simp[bz]
 have ah:=h.slot d _ hd
 simp[bz]at ah
 cases eP:a.tmps[d]with
 |tuple x=>simp[aH,eP]
 |_=>rw[eP]at ah;cases ah
theorem b7.guarded{ops:Array Oper}{o:Oper}{rest:List Oper}{bd:aJ}{j d:Nat}{b:Bool}(ag:o.guard=some (j,b))(ai:k3 ops j=some d)(hd:s.cl[d]? =some (.au (.v (.bool b))))
 (h:dO P G o s bd)(k:b7 P G ops Q rest bd):b7 P G ops Q (o::rest) s:=
 fun E a w ae=>wpList_step fun _ hK=>by
  have ax:=Dy ae ai hd
  simp only[Region.wanted,ag,ax,beq_self_eq_true,if_true];exact h E a w ae _ _ fun aW w' dC=>hK aW w' (k E aW w' dC)
theorem Rel.zb{E:Entry}{a:Act}{w:World}(ae:Rel E G s a w)(dst:Option Nat):Rel E G (s.put dst (.tuple [])) (a.put dst undef) w:=by
 obtain⟨β,ro,h⟩:=ae
 exact⟨β,ro,h.put dst _ _ (.tuple _ _ rfl (by simp))⟩
theorem b7.R3{ops:Array Oper}{o:Oper}{rest:List Oper}{j d:Nat}{b:Bool}(ag:o.guard=some (j,b))(ai:k3 ops j=some d)(hd:s.cl[d]? =some (.au (.v (.bool (!b)))))
 (k:b7 P G ops Q rest (s.put o.dst (.tuple []))):b7 P G ops Q (o::rest) s:=
 fun E a w ae=>by
  have ax:=Dy ae ai hd
  refine wpList_skip ?_ (k E _ w (ae.zb o.dst))
  simp only[Region.wanted,ag,ax]
  cases b<;>rfl
theorem b7.R4{ops:Array Oper}{o:Oper}{rest:List Oper}{j d:Nat}{b:Bool}(ag:o.guard=some (j,b))(ai:k3 ops j=some d){cs:List az}(hd:s.cl[d]? =some (.tuple cs))
 (k:b7 P G ops Q rest (s.put o.dst (.tuple []))):b7 P G ops Q (o::rest) s:=
 fun E a w ae=>by
  have ax:=JH ae ai hd
  refine wpList_skip ?_ (k E _ w (ae.zb o.dst))
  simp only[Region.wanted,ag,ax]
  cases b<;>rfl
def R5(P:Program)(G:aY)(c:Code)(Q:Exit→aJ→Prop):Exit→aJ→Prop
 | .normal,s=>bL P G c Q s
 |e,s=>Q e s
theorem bL.seq{x y:Code}(h:bL P G x (R5 P G y Q) s):bL P G (.seq x y) Q s:=fun E a w ae=>by
 refine wp_seq (wp_mono (h E a w ae) fun e aW w' aH=>?_)
 obtain⟨bd,aa,af⟩:=aH
 cases e with
 |normal=>exact aa E aW w' af
 |_=>exact⟨bd,aa,af⟩
theorem bL.cond{x:Operand}{c d:Code}{b:Bool}(hx:aE G s x= .au (.v (.bool b)))(aB:b=true→bL P G c Q s)(hf:b=false→bL P G d Q s):bL P G (.cond x c d) Q s:=fun E a w ae=>by
 obtain⟨β,ro,h⟩:=ae
 exact wp_cond_split (h.dU hx) (fun e=>aB e E a w ⟨β,ro,h⟩) (fun e=>hf e E a w ⟨β,ro,h⟩)
theorem bL.JI{x:Operand}{c d:Code}(hx:aE G s x= .au (.v (.bool true)))(aB:bL P G c Q s):bL P G (.cond x c d) Q s:=bL.cond hx (fun _=>aB) (fun h=>by cases h)
theorem bL.JJ{x:Operand}{c d:Code}(hx:aE G s x= .au (.v (.bool false)))(hf:bL P G d Q s):bL P G (.cond x c d) Q s:=bL.cond hx (fun h=>by cases h) (fun _=>hf)
theorem bL.skip(h:Q .normal s):bL P G .skip Q s:=fun _ _ _ ae=>wp_skip ⟨s,h,ae⟩
theorem bL.ret(h:Q .ret s):bL P G .ret Q s:=fun _ _ _ ae=>wp_ret ⟨s,h,ae⟩
theorem bL.exit{id:Nat}(h:Q (.exit id) s):bL P G (.exit id) Q s:=fun _ _ _ ae=>wp_exit ⟨s,h,ae⟩
theorem bL.mono{c:Code}{Q':Exit→aJ→Prop}(h:bL P G c Q s)(aH: ∀e s,Q e s→Q' e s):bL P G c Q' s:=fun E a w ae=>
 wp_mono (h E a w ae) fun e _ _ ⟨bd,aa,af⟩=>⟨bd,aH e bd aa,af⟩
def JK(id:Nat)(Q:Exit→aJ→Prop):Exit→aJ→Prop
 | .exit gl,s=>bif Nat.beq gl id then Q .normal s else Q (.exit gl) s
 |e,s=>Q e s
theorem bL.block{id:Nat}{c:Code}(h:bL P G c (JK id Q) s):bL P G (.block id c) Q s:=fun E a w ae=>by
 refine wp_block (wp_mono (h E a w ae) fun e aW w' aH=>?_)
 obtain⟨bd,aa,af⟩:=aH
 cases e with
 |exit gl=>
  simp only[JK,Exit.inBlock]at*
  split
  ·rename_i he
   have ad:Nat.beq gl id=true:=by simpa using he
   rw[ad]at aa;exact⟨bd,aa,af⟩
  ·rename_i he
   have ad:Nat.beq gl id=false:=by
    cases aH:Nat.beq gl id with
    |false=>rfl
    |true=>exact absurd (Nat.eq_of_beq_eq_true aH) he
   rw[ad]at aa;exact⟨bd,aa,af⟩
 |_=>exact⟨bd,aa,af⟩
def cw(s bd:aJ):Prop:=∀E (G:aY) a w,Rel E G s a w→Rel E G bd a w
theorem cw.refl(s:aJ):cw s s:=fun _ _ _ _ h=>h
theorem cw.trans{s bd JL:aJ}(h:cw s bd)(k:cw bd JL):cw s JL:=fun E G a w ae=>k E G a w (h E G a w ae)
theorem bL.le{c:Code}{bd:aJ}(h:cw s bd)(k:bL P G c Q bd):bL P G c Q s:=fun E a w ae=>k E a w (h E G a w ae)
theorem b7.le{ops:Array Oper}{l:List Oper}{bd:aJ}(h:cw s bd)(k:b7 P G ops Q l bd):b7 P G ops Q l s:=fun E a w ae=>k E a w (h E G a w ae)
theorem bL.loop{ι:Type}(st:ι→aJ)(inv:ι→Prop)(mu:ι→Nat){c:Code}(x:ι)(aP:cw s (st x))(hi:inv x)
    (round: ∀x,inv x→bL P G c (fun e bd=>match e with
      | .normal=>∃y,inv y∧mu y<mu x∧cw bd (st y)
      |e=>Q e bd) (st x)):bL P G (.loop c) Q s:=fun E a w ae=>by
  have key: ∀n x,mu x=n→inv x→∀a w,Rel E G (st x) a w→(Code.loop c).wp P (lift E G Q) a w:=by
    intro n x hn hx a w ae;refine wp_loop (fun a w=>∃y,inv y∧Rel E G (st y) a w) (fun a w=>Classical.epsilon fun m=>∃y,inv y∧Rel E G (st y) a w∧mu y=m∧∀z,inv z→Rel E G (st z) a w→m≤mu z) ⟨x,hx,ae⟩ ?_
    intro a w ⟨dI,za,R6⟩
    have hex: ∃m,∃y,inv y∧Rel E G (st y) a w∧mu y=m∧∀z,inv z→Rel E G (st z) a w→m≤mu z:=by
      have: ∀k y,mu y=k→inv y→Rel E G (st y) a w→∃m,∃y,inv y∧Rel E G (st y) a w∧mu y=m∧∀z,inv z→Rel E G (st z) a w→m≤mu z:=by
        intro k
        induction k using Nat.strongRecOn with
        |_ k aO=>
          intro y aj ax vT
          by_cases o3: ∀z,inv z→Rel E G (st z) a w→mu y≤mu z
          · exact⟨mu y,y,ax,vT,rfl,o3⟩
          · simp only[Classical.not_forall]at o3
            obtain⟨z,bl,k4,bz⟩:=o3;exact aO (mu z) (by omega) z rfl bl k4
      exact this _ dI rfl za R6
    obtain⟨y,ax,vT,R7,_⟩:=Classical.epsilon_spec hex;refine wp_mono (round y ax E a w vT) fun e aW w' aH=>?_
    obtain⟨bd,aa,af⟩:=aH
    cases e with
    |normal=>
      obtain⟨z,bl,bz,hle⟩:=aa
      have k4:=hle E G aW w' af
      refine⟨⟨z,bl,k4⟩,?_⟩
      have R8: ∃m,∃y,inv y∧Rel E G (st y) aW w'∧mu y=m∧∀z,inv z→Rel E G (st z) aW w'→m≤mu z:=by
        have: ∀k y,mu y=k→inv y→Rel E G (st y) aW w'→∃m,∃y,inv y∧Rel E G (st y) aW w'∧mu y=m∧∀z,inv z→Rel E G (st z) aW w'→m≤mu z:=by
          intro k
          induction k using Nat.strongRecOn with
          |_ k aO=>
            intro y aj ax vT
            by_cases o3: ∀z,inv z→Rel E G (st z) aW w'→mu y≤mu z
            · exact⟨mu y,y,ax,vT,rfl,o3⟩
            · simp only[Classical.not_forall]at o3
              obtain⟨z,bl,k4,bz⟩:=o3;exact aO (mu z) (by omega) z rfl bl k4
        exact this _ z rfl bl k4
      obtain⟨_,_,_,_,o3⟩:=Classical.epsilon_spec R8
      have ar:=o3 z bl k4
      rw[←R7];exact Nat.lt_of_le_of_lt ar bz
    |_=>exact⟨bd,aa,af⟩
  exact key _ x rfl hi a w (aP E G a w ae)
end
def dn(P:Program)(G:aY)(f:FuncId)(args:List az)(σ:bp)(n:Nat)(Q:az→bp→Prop):Prop:=
 ∀w β ro (ek:Array Value),ek.size=args.length→(∀i x,args[i]? =some x→bk w ro σ β n x (ek.getD i undef))→gJ w ro σ β n→oN w ro G→(∀id o,aA σ id=some o→id<n)→
  Calls P f ek w fun e w'=>∃v r eU dB ro' cy,e= .returned v∧Q r eU∧bk w' ro' eU dB cy r v∧gJ w' ro' eU dB cy∧Trans ⟨w,ro,σ,β,n⟩ w' ro' eU dB cy
def lE(P:Program)(s:aJ):List ResultVar→Option (List az)
 |[]=>some []
 | .tmp t::r=>match lE P s r with
  |some l=>some (s.cl.getD t .top::l)
  |none=>none
 | .cell p t::r=>match lE P s r,eZ s.heap (s.cl.getD p .top)with
  |some l,some cs=>match kZ P t with
   |some n=>if n≤cs.length∧0<n then some (.agg (cs.take n)::l)else none
   |none=>if scalar P t then match cs with
    |y::_=>some (y::l)
    |[]=>none
    else none
  |_,_=>none
def vU(P:Program)(fn:Func)(s:aJ):Option az:=
 match lE P s fn.results.toList with
 |some [x]=>some x
 |some l=>some (.tuple l)
 |none=>none
def R9(P:Program)(fn:Func)(Q:az→bp→Prop):Exit→aJ→Prop:=fun e s=>
 (e= .normal∨e= .ret)∧∃r eU,vU P fn s=some r∧(∀id o,aA eU id=some o→aA s.heap id=some o)∧Q r eU
theorem gJ.sub{w:World}{ro:Nat→Prop}{σ eU:bp}{β:Nat→Value}{N:Nat}(h:gJ w ro σ β N)(ah: ∀id o,aA eU id=some o→aA σ id=some o):gJ w ro eU β N:=by
 refine⟨fun id o ag=>(h.cL id o (ah id o ag)).keep (fun _ _=>rfl) (fun _ h=>h) (Nat.le_refl _) (Nat.le_refl _) rfl (fun _ _ _=>rfl) (fun id t cs ag=>⟨rfl,t,cs,ah id _ ag⟩) (fun id z t n es ag=>⟨rfl,z,t,es,ah id _ ag⟩) (fun id br ag=>⟨rfl,br,ah id _ ag⟩),
  fun id gl o b6 b aa af=>h.inj id gl o b6 b (ah id o aa) (ah gl b6 af),fun b ad ⟨id,o,ag,an,a1⟩=>h.fe b ad ⟨id,o,ah id o ag,an,a1⟩,h.lt⟩
theorem bk.sub{w:World}{ro:Nat→Prop}{σ eU:bp}{β:Nat→Value}{N:Nat}{x:az}{c:Value}(h:bk w ro σ β N x c)(ah: ∀id o,aA eU id=some o→aA σ id=some o):bk w ro eU β N x c:=
 h.keep (fun _ _=>rfl) (fun _ h=>h) (Nat.le_refl _) (fun id t cs ag=>⟨rfl,t,cs,ah id _ ag⟩) (fun id z t _ es ag=>⟨rfl,z,t,es,ah id _ ag⟩) (fun id br ag=>⟨rfl,br,ah id _ ag⟩)
theorem Trans.sub{E:Entry}{w:World}{ro:Nat→Prop}{σ eU:bp}{β:Nat→Value}{n:Nat}(h:Trans E w ro σ β n)(ah: ∀id o,aA eU id=some o→aA σ id=some o):Trans E w ro eU β n:=
 ⟨h.os,h.tape,h.output,h.size,h.frame,h.h3,h.iV,fun b ⟨id,o,ag,an,a1⟩=>h.gm b ⟨id,o,ah id o ag,an,a1⟩,fun id hi o ag=>h.dj id hi o (ah id o ag),fun id o ag=>h.new id o (ah id o ag),h.le⟩
section
variable {P:Program} {G:aY}
def rP(tmps:Array Value):ResultVar→Sem Value
 | .tmp t=>pure (tmps.getD t undef)
 | .cell p t=>do
  let b ←asAddr (tmps.getD p undef)
  loadVar t b
theorem Sa(fn:Func)(tmps:Array Value):results fn tmps=(do
    let vs ←fn.results.mapM (rP tmps)
    pure (if h:vs.size=1 then vs[0]else .tuple vs)):=by
  unfold results
  have:(fun x=>match x with
      |ResultVar.tmp t=>(pure (tmps.getD t undef):Sem Value)
      |ResultVar.cell p t=>do
        let b ←asAddr (tmps.getD p undef)
        loadVar t b)=rP tmps:=by
    funext x
    cases x<;>rfl
  rw[←this];rfl
theorem Dz{E:Entry}{s:aJ}{a:Act}{w:World}{β:Nat→Value}{ro:Nat→Prop}(h:cP E G s a w β ro): ∀{rs:List ResultVar} {l:List az},lE P s rs=some l→
 ∃vs:List Value,(rs.mapM (rP a.tmps)).run P w= .ok vs w∧vs.length=l.length∧∀j x,l[j]? =some x→bk w ro s.heap β s.next x (vs.getD j undef)
 |[],l,an=>by
  simp[lE]at an;subst an;exact⟨[],by simp,rfl,by simp⟩
 | .tmp t::r,l,an=>by
  simp only[lE]at an
  cases ae:lE P s r with
  |none=>simp[ae]at an
  |some eB=>
   simp only[ae,Option.some.injEq]at an;subst an;obtain⟨vs,aa,af,ar⟩:=Dz h ae;refine⟨a.tmps.getD t undef::vs,by simp only[List.mapM_cons,Sem.run_bind,rP,Sem.run_pure,Result.andThen_ok,aa],by simp[af],fun j x ai=>?_⟩
   cases j with
   |zero=>
    simp at ai;subst ai;exact h.eval (.tmp t)
   |succ j=>exact ar j x ai
 | .cell p t::r,l,an=>by
  simp only[lE]at an
  cases ae:lE P s r with
  |none=>simp[ae]at an
  |some eB=>
   cases hc:eZ s.heap (s.cl.getD p .top)with
   |none=>rw[ae,hc]at an;cases an
   |some cs=>
    rw[ae,hc]at an;simp only at an;obtain⟨vs,aa,af,ar⟩:=Dz h ae
    have jJ:=h.eval (.tmp p)
    simp only[aE,Act.eval]at jJ
    cases bs:kZ P t with
    |some n=>
     simp only[bs]at an
     split at an
     ·rename_i hn
      simp only[Option.some.injEq]at an;subst an;obtain⟨cz,rQ,f,hf⟩:=ta h.heap hc jJ (by intro e;subst e;simp at hn;omega)
      obtain⟨g1,g2⟩:=y4 bs w
      have k5:=run_loadCells (P:=P) w cz n f (fun j ai=>(hf j (cs[j]'(by omega)) (by simp)).1)
      refine⟨.agg ((List.range n).map f).toArray::vs,?_,by simp[af],fun j x ai=>?_⟩
      ·simp only[List.mapM_cons,Sem.run_bind,rP,rQ,asAddr,Sem.run_pure,Result.andThen_ok,loadVar,g1,g2,if_true,k5,aa]
      ·cases j with
       |zero=>
        simp at ai;subst ai;refine .agg _ _ (by simp;omega) fun j y ai=>?_
        rw[List.getElem?_take]at ai
        split at ai
        ·have:=(hf j y ai).2
         rename_i mY;simpa[mY]using this
        ·cases ai
       |succ j=>exact ar j x ai
     ·cases an
    |none=>
     simp only[bs]at an
     split at an
     ·rename_i hsc
      cases cs with
      |nil=>simp at an
      |cons y cs'=>
       simp only[Option.some.injEq]at an;subst an;obtain⟨cz,rQ,f,hf⟩:=ta h.heap hc jJ (by simp)
       have g1:=vI hsc w
       obtain⟨j5,c1⟩:=hf 0 y rfl;rw[show cz.add 0=cz from by simp[Addr.add]]at j5
       refine⟨f 0::vs,?_,by simp[af],fun j x ai=>?_⟩
       ·simp only[List.mapM_cons,Sem.run_bind,rP,rQ,asAddr,Sem.run_pure,Result.andThen_ok,loadVar,g1]
        simp[run_load,j5,aa]
       ·cases j with
        |zero=>simp at ai;subst ai;exact c1
        |succ j=>exact ar j x ai
     ·cases an
theorem Sb{E:Entry}{s:aJ}{a:Act}{w:World}{β:Nat→Value}{ro:Nat→Prop}(h:cP E G s a w β ro){fn:Func}{r:az}(ae:vU P fn s=some r):
 ∃v,(results fn a.tmps).run P w= .ok v w∧bk w ro s.heap β s.next r v:=by
 unfold vU at ae
 cases aI:lE P s fn.results.toList with
 |none=>simp[aI]at ae
 |some l=>
  rw[aI]at ae;obtain⟨vs,aa,af,ar⟩:=Dz h aI
  have hm:(fn.results.mapM (rP a.tmps)).run P w= .ok vs.toArray w:=by
   rw[Array.mapM_eq_mapM_toList];simp only[Sem.run_map,aa]
   first|rfl|simp
  have o4:(results fn a.tmps).run P w= .ok (if h:vs.toArray.size=1 then vs.toArray[0]else .tuple vs.toArray) w:=by
   rw[Sa,Sem.run_bind,hm];rfl
  refine⟨_,o4,?_⟩
  match l,aI,ae,af,ar with
  |[x],_,ae,af,ar=>
   injection ae with ae
   subst ae
   have yu:vs.toArray.size=1:=by simpa using af
   rw[dif_pos yu]
   have:=ar 0 x rfl
   have zc:0<vs.length:=by simp at yu;omega
   simpa[List.getD,zc]using this
  |[],_,ae,af,ar=>
   injection ae with ae
   subst ae
   have:vs=[]:=List.eq_nil_of_length_eq_zero (by simpa using af)
   subst this;exact .tuple _ _ rfl (by simp)
  |x::y::eB,_,ae,af,ar=>
   injection ae with ae
   subst ae;rw[dif_neg (by simp at af⊢;omega)]
   refine .tuple _ _ (by simpa using af) fun j z ai=>?_
   have:=ar j z ai
   simpa[List.getD,Array.getD_eq_getD_getElem?]using this
theorem dn.Sc{f:FuncId}{fn:Func}{c:Code}{args:List az}{σ:bp}{n k:Nat}{Q:az→bp→Prop}(hf:P.funcs[f]? =some fn)(ad:fn.body=some c)(aj:fn.ntmps-args.length=k)
 (h:bL P G c (R9 P fn Q) ⟨args++List.replicate k .top,σ,n,n⟩):dn P G f args σ n Q:=by
 intro w β ro ek bA hy aV ag bz
 refine calls_of_wp hf ad (wp_mono (h ⟨w,ro,σ,β,n⟩ _ w ⟨β,ro,rfl,?_,?_,aV,ag,?_,Nat.le_refl _⟩) ?_)
 ·simp[bA,aj]
 ·intro i x hi
  simp only at hi
  by_cases DA:i<args.length
  ·rw[List.getElem?_append_left DA]at hi
   have:=hy i x hi
   have aa:i<ek.size:=by omega
   simpa[Array.getElem?_append_left aa,aa,Array.getElem_append_left aa]using this
  ·rw[List.getElem?_append_right (by omega)]at hi
   rw[List.getElem?_replicate]at hi
   split at hi
   ·simp only[Option.some.injEq]at hi;subst hi;exact .top _
   ·cases hi
 ·exact⟨rfl,rfl,rfl,Nat.le_refl _,fun _ _ _=>rfl,fun _ h=>.inl h,fun _ h=>h,fun _ h=>.inl h,fun id _ o ao=>⟨by rw[ao];simp,rfl⟩,bz,Nat.le_refl _⟩
 ·intro e aW w' ⟨bd,aH,dB,ro',ae⟩
  obtain⟨he,r,eU,o4,fP,dP⟩:=aH;obtain⟨v,av,c1⟩:=Sb ae o4
  rcases he with rfl|rfl
  ·exact⟨ae.defers,v,av,v,r,eU,dB,ro',bd.next,rfl,dP,c1.sub fP,ae.heap.sub fP,ae.trans.sub fP⟩
  ·exact⟨ae.defers,v,av,v,r,eU,dB,ro',bd.next,rfl,dP,c1.sub fP,ae.heap.sub fP,ae.trans.sub fP⟩
end
end Go.aG
namespace Go.aG
open Go
mutual
def fQ(n:Nat):az→Bool
 | .au _=>true
 | .agg cs=>j7 n cs
 | .tuple cs=>j7 n cs
 | .ptr id _=>decide (id<n)
 | .dh id _=>decide (id<n)
 | .cn id _ _=>decide (id<n)
 | .aL id=>decide (id<n)
 | .fn _ p q=>j7 n p&&j7 n q
 | .ref id=>decide (id<n)
 | .top=>true
def j7(n:Nat):List az→Bool
 |[]=>true
 |x::r=>fQ n x&&j7 n r
end
theorem o5{n:Nat}: ∀{cs:List az},j7 n cs=true→∀{j:Nat} {x:az},cs[j]? =some x→fQ n x=true
 |[],_,j,x,h=>by simp at h
 |y::r,ad,j,x,h=>by
  simp only[j7,Bool.and_eq_true]at ad
  cases j with
  |zero=>simp at h;subst h;exact ad.1
  |succ j=>simp at h;exact o5 ad.2 h
theorem bk.lower{w:World}{ro:Nat→Prop}{σ:bp}{β:Nat→Value}{N mT:Nat}{x:az}{c:Value}(h:bk w ro σ β N x c)(ad:fQ mT x=true):bk w ro σ β mT x c:=by
 induction h with
 |au x c hx=>exact .au x c hx
 |agg cs c ah _ aO=>
  simp only[fQ]at ad;exact .agg cs c ah fun j x ai=>aO j x ai (o5 ad ai)
 |tuple cs c ah _ aO=>
  simp only[fQ]at ad;exact .tuple cs c ah fun j x ai=>aO j x ai (o5 ad ai)
 |ptr id off c an ak=>exact .ptr id off c (by simpa[fQ]using ad) ak
 |dh id off c an ak=>exact .dh id off c (by simpa[fQ]using ad) ak
 |cn id i off c an ak=>exact .cn id i off c (by simpa[fQ]using ad) ak
 |aL id c an ak=>exact .aL id c (by simpa[fQ]using ad) ak
 |fn f p q c d aa af _ _ gp gq=>
  simp only[fQ,Bool.and_eq_true]at ad;exact .fn f p q c d aa af (fun j x ai=>gp j x ai (o5 ad.1 ai)) (fun j x ai=>gq j x ai (o5 ad.2 ai))
 |ref id c an ak=>exact .ref id c (by simpa[fQ]using ad) ak
 |top c=>exact .top c
def th(σ:bp):List Nat→bp
 |[]=>[]
 |id::r=>match aA σ id with
  |some o=>(id,o)::th σ r
  |none=>th σ r
theorem DB(σ:bp): ∀(ids:List Nat) (id:Nat) (o:dS),aA (th σ ids) id=some o→aA σ id=some o
 |[],id,o,h=>by simp[th,aA]at h
 |k::r,id,o,h=>by
  simp only[th]at h
  cases aj:aA σ k with
  |none=>rw[aj]at h;exact DB σ r id o h
  |some p=>
   rw[aj]at h;simp only[aA]at h
   split at h
   ·rename_i he
    subst he;rw[aj];exact h
   ·exact DB σ r id o h
def j8(n:Nat):bp→Bool
 |[]=>true
 |(id,.box _ cs)::r=>decide (id<n)&&j7 n cs&&j8 n r
 |(id,.row _ _ _ _)::r=>decide (id<n)&&j8 n r
 |(id,.bO _)::r=>decide (id<n)&&j8 n r
theorem o6{n:Nat}: ∀{σ:bp},j8 n σ=true→∀{id:Nat} {o:dS},aA σ id=some o→id<n∧∀t cs,o= .box t cs→j7 n cs=true
 |[],_,id,o,h=>by simp[aA]at h
 |(k,.box t cs)::r,ad,id,o,h=>by
  simp only[j8,Bool.and_eq_true,decide_eq_true_eq]at ad;simp only[aA]at h
  split at h
  ·rename_i he
   subst he;simp only[Option.some.injEq]at h;subst h;exact⟨ad.1.1,fun bn cs' he=>by cases he;exact ad.1.2⟩
  ·exact o6 ad.2 h
 |(k,.row z t m es)::r,ad,id,o,h=>by
  simp only[j8,Bool.and_eq_true,decide_eq_true_eq]at ad;simp only[aA]at h
  split at h
  ·rename_i he
   subst he;simp only[Option.some.injEq]at h;subst h;exact⟨ad.1,fun bn cs' he=>by cases he⟩
  ·exact o6 ad.2 h
 |(k,.bO br)::r,ad,id,o,h=>by
  simp only[j8,Bool.and_eq_true,decide_eq_true_eq]at ad;simp only[aA]at h
  split at h
  ·rename_i he
   subst he;simp only[Option.some.injEq]at h;subst h;exact⟨ad.1,fun bn cs' he=>by cases he⟩
  ·exact o6 ad.2 h
mutual
def lF(σ:bp):az→az
 | .aL id=>match aA σ id with
  |some (.row true _ n es)=>.au (.aL n es)
  |_=>.aL id
 | .agg cs=>.agg (k6 σ cs)
 | .tuple cs=>.tuple (k6 σ cs)
 | .fn f p q=>.fn f (k6 σ p) (k6 σ q)
 | .au x=>.au x
 | .ptr id off=>.ptr id off
 | .dh id off=>.dh id off
 | .cn id i off=>.cn id i off
 | .ref id=>.ref id
 | .top=>.top
def k6(σ:bp):List az→List az
 |[]=>[]
 |x::r=>lF σ x::k6 σ r
end
theorem ng(σ:bp): ∀(l:List az),(k6 σ l).length=l.length
 |[]=>rfl
 |x::r=>by simp[k6,ng σ r]
theorem nh(σ:bp): ∀{l:List az} {j:Nat} {x:az},(k6 σ l)[j]? =some x→∃y,l[j]? =some y∧x=lF σ y
 |[],j,x,h=>by simp[k6]at h
 |y::r,j,x,h=>by
  cases j with
  |zero=>simp[k6]at h;exact⟨y,by simp,h.symm⟩
  |succ j=>simp[k6]at h;simpa using nh σ h
theorem Sd{w:World}{ro:Nat→Prop}{σ:bp}{β:Nat→Value}{N:Nat}(aV:gJ w ro σ β N){x:az}{c:Value}(h:bk w ro σ β N x c):bk w ro σ β N (lF σ x) c:=by
 induction h with
 |aL id c an ak=>
  simp only[lF]
  split
  ·rename_i t n es ag
   rw[ak true t n es ag]
   have:=aV.cL id _ ag
   cases this with
   |fG _ _ _ aa=>exact .au _ _ aa
  ·exact .aL id c an ak
 |au x c h=>exact .au x c h
 |agg cs c aa _ aO=>
  refine .agg _ c (by rw[ng];exact aa) fun j x ai=>?_
  obtain⟨y,ax,rfl⟩:=nh σ ai;exact aO j y ax
 |tuple cs c aa _ aO=>
  refine .tuple _ c (by rw[ng];exact aa) fun j x ai=>?_
  obtain⟨y,ax,rfl⟩:=nh σ ai;exact aO j y ax
 |ptr id off c aa af=>exact .ptr id off c aa af
 |dh id off c aa af=>exact .dh id off c aa af
 |cn id i off c aa af=>exact .cn id i off c aa af
 |fn f p q c d aa af _ _ gp gq=>
  refine .fn f _ _ c d (by rw[ng];exact aa) (by rw[ng];exact af) (fun j x ai=>?_) (fun j x ai=>?_)
  ·obtain⟨y,ax,rfl⟩:=nh σ ai
   exact gp j y ax
  ·obtain⟨y,ax,rfl⟩:=nh σ ai
   exact gq j y ax
 |ref id c aa af=>exact .ref id c aa af
 |top c=>exact .top c
mutual
def e1:az→Bool
 | .au _=>true
 | .agg cs=>ep cs
 | .tuple cs=>ep cs
 | .fn _ p q=>ep p&&ep q
 | .top=>true
 | .ptr _ _=>false
 | .dh _ _=>false
 | .cn _ _ _=>false
 | .aL _=>false
 | .ref _=>false
def ep:List az→Bool
 |[]=>true
 |x::r=>e1 x&&ep r
end
theorem lG: ∀{cs:List az},ep cs=true→∀{j:Nat} {x:az},cs[j]? =some x→e1 x=true
 |[],_,j,x,h=>by simp at h
 |y::r,ad,j,x,h=>by
  simp only[ep,Bool.and_eq_true]at ad
  cases j with
  |zero=>simp at h;subst h;exact ad.1
  |succ j=>simp at h;exact lG ad.2 h
theorem zd(l:List ba):ep (l.map .au)=true:=by
 induction l with
 |nil=>rfl
 |cons x r aO=>simp[ep,e1,aO]
theorem mf{w:World}{ro:Nat→Prop}{σ bE:bp}{β vV:Nat→Value}{N M:Nat}{x:az}{c:Value}(h:bk w ro σ β N x c)(ak:e1 x=true):bk w ro bE vV M x c:=by
 induction h with
 |au x c h=>exact .au x c h
 |agg cs c aa _ aO=>
  simp only[e1]at ak;exact .agg cs c aa fun j x ai=>aO j x ai (lG ak ai)
 |tuple cs c aa _ aO=>
  simp only[e1]at ak;exact .tuple cs c aa fun j x ai=>aO j x ai (lG ak ai)
 |fn f p q c d aa af _ _ gp gq=>
  simp only[e1,Bool.and_eq_true]at ak;exact .fn f p q c d aa af (fun j x ai=>gp j x ai (lG ak.1 ai)) (fun j x ai=>gq j x ai (lG ak.2 ai))
 |top c=>exact .top c
 |ptr=>simp[e1]at ak
 |dh=>simp[e1]at ak
 |cn=>simp[e1]at ak
 |aL=>simp[e1]at ak
 |ref=>simp[e1]at ak
mutual
def n8(d:Nat):az→az
 | .au x=>.au x
 | .agg cs=>.agg (kz d cs)
 | .tuple cs=>.tuple (kz d cs)
 | .ptr id off=>.ptr (d+id) off
 | .dh id off=>.dh (d+id) off
 | .cn id i off=>.cn (d+id) i off
 | .aL id=>.aL (d+id)
 | .fn f p q=>.fn f (kz d p) (kz d q)
 | .ref id=>.ref (d+id)
 | .top=>.top
def kz(d:Nat):List az→List az
 |[]=>[]
 |x::r=>n8 d x::kz d r
end
def j9(d:Nat):bp→bp
 |[]=>[]
 |(id,.box t cs)::r=>(d+id,.box t (kz d cs))::j9 d r
 |(id,.row z t n es)::r=>(d+id,.row z t n es)::j9 d r
 |(id,.bO br)::r=>(d+id,.bO br)::j9 d r
def jK(d:Nat):dS→dS
 | .box t cs=>.box t (kz d cs)
 | .row z t n es=>.row z t n es
 | .bO br=>.bO br
theorem ti(d:Nat): ∀(l:List az),(kz d l).length=l.length
 |[]=>rfl
 |x::r=>by simp[kz,ti d r]
theorem tj(d:Nat): ∀{l:List az} {j:Nat} {x:az},(kz d l)[j]? =some x→∃y,l[j]? =some y∧x=n8 d y
 |[],j,x,h=>by simp[kz]at h
 |y::r,j,x,h=>by
  cases j with
  |zero=>simp[kz]at h;exact⟨y,by simp,h.symm⟩
  |succ j=>simp[kz]at h;simpa using tj d h
theorem JM(σ bE:bp)(id:Nat):aA (σ++bE) id=(aA σ id).or (aA bE id):=by
 induction σ with
 |nil=>simp[aA]
 |cons p r aO=>
  obtain⟨k,o⟩:=p;simp only[List.cons_append,aA]
  split
  ·simp
  ·exact aO
theorem vW(d:Nat): ∀(σ:bp) (id:Nat),aA (j9 d σ) id=if d≤id then(aA σ (id-d)).map (jK d)else none
 |[],id=>by simp[j9,aA]
 |(k,.box t cs)::r,id=>by
  simp only[j9,aA,vW d r]
  by_cases aa:d+k=id
  ·have af:d≤id:=by omega
   have ar:k=id-d:=by omega
   simp[af,ar,jK]
  ·by_cases af:d≤id
   ·have ar: ¬k=id-d:=by omega
    simp[aa,af,ar]
   ·simp[aa,af]
 |(k,.row z t n es)::r,id=>by
  simp only[j9,aA,vW d r]
  by_cases aa:d+k=id
  ·have af:d≤id:=by omega
   have ar:k=id-d:=by omega
   simp[af,ar,jK]
  ·by_cases af:d≤id
   ·have ar: ¬k=id-d:=by omega
    simp[aa,af,ar]
   ·simp[aa,af]
 |(k,.bO br)::r,id=>by
  simp only[j9,aA,vW d r]
  by_cases aa:d+k=id
  ·have af:d≤id:=by omega
   have ar:k=id-d:=by omega
   simp[af,ar,jK]
  ·by_cases af:d≤id
   ·have ar: ¬k=id-d:=by omega
    simp[aa,af,ar]
   ·simp[aa,af]
theorem bk.shift{w:World}{ro ro':Nat→Prop}{σ bE:bp}{β vV:Nat→Value}{N M:Nat}{x:az}{c:Value}(h:bk w ro σ β N x c)(bZ: ∀b,ro b→ro' b)
 (DC: ∀id o,aA bE id=some o→id<M):
 bk w ro' (j9 M σ++bE) (fun k=>if M≤k then β (k-M)else vV k) (M+N) (n8 M x) c:=by
 have key: ∀id,aA (j9 M σ++bE) (M+id)=(aA σ id).map (jK M):=by
  intro id;rw[JM,vW]
  have aa:M≤M+id:=by omega
  simp only[aa,if_true,Nat.add_sub_cancel_left]
  cases ah:aA σ id with
  |some o=>simp
  |none=>
   simp
   cases aB:aA bE (M+id)with
   |none=>rfl
   |some o=>have:=DC _ _ aB;omega
 induction h with
 |au x c hx=>exact .au x c (hx.keep (fun _ _=>rfl) bZ)
 |agg cs c ah _ aO=>
  refine .agg _ c (by rw[ti];exact ah) fun j x ai=>?_
  obtain⟨y,ax,rfl⟩:=tj M ai;exact aO j y ax
 |tuple cs c ah _ aO=>
  refine .tuple _ c (by rw[ti];exact ah) fun j x ai=>?_
  obtain⟨y,ax,rfl⟩:=tj M ai;exact aO j y ax
 |ptr id off c an ak=>
  refine .ptr _ off c (by omega) fun t cs ag=>?_
  rw[key]at ag;simp only[Nat.le_add_right,if_true,Nat.add_sub_cancel_left]
  cases ah:aA σ id with
  |none=>simp[ah]at ag
  |some o=>
   cases o with
   |box bn cs'=>exact ak bn cs' ah
   |row=>simp[ah,jK]at ag
   |bO=>simp[ah,jK]at ag
 |dh id off c an ak=>
  refine .dh _ off c (by omega) fun t cs ag=>?_
  rw[key]at ag;simp only[Nat.le_add_right,if_true,Nat.add_sub_cancel_left]
  cases ah:aA σ id with
  |none=>simp[ah]at ag
  |some o=>
   cases o with
   |box bn cs'=>exact ak bn cs' ah
   |row=>simp[ah,jK]at ag
   |bO=>simp[ah,jK]at ag
 |cn id i off c an ak=>
  refine .cn _ i off c (by omega) fun z t n es ag=>?_
  rw[key]at ag;simp only[Nat.le_add_right,if_true,Nat.add_sub_cancel_left]
  cases ah:aA σ id with
  |none=>simp[ah]at ag
  |some o=>
   cases o with
   |box bn cs'=>simp[ah,jK]at ag
   |bO=>simp[ah,jK]at ag
   |row ht bn cy dX=>
    simp only[ah,Option.map_some,jK,Option.some.injEq,dS.row.injEq]at ag;obtain⟨rfl,rfl,rfl,rfl⟩:=ag;exact ak _ _ _ _ ah
 |aL id c an ak=>
  refine .aL _ c (by omega) fun z t n es ag=>?_
  rw[key]at ag;simp only[Nat.le_add_right,if_true,Nat.add_sub_cancel_left]
  cases ah:aA σ id with
  |none=>simp[ah]at ag
  |some o=>
   cases o with
   |box bn cs'=>simp[ah,jK]at ag
   |bO=>simp[ah,jK]at ag
   |row ht bn cy dX=>exact ak _ _ _ _ ah
 |fn f p q c d aa af _ _ gp gq=>
  refine .fn f _ _ c d (by rw[ti];exact aa) (by rw[ti];exact af) (fun j x ai=>?_) (fun j x ai=>?_)
  ·obtain⟨y,ax,rfl⟩:=tj M ai
   exact gp j y ax
  ·obtain⟨y,ax,rfl⟩:=tj M ai
   exact gq j y ax
 |ref id c an ak=>
  refine .ref _ c (by omega) fun br ag=>?_
  rw[key]at ag;simp only[Nat.le_add_right,if_true,Nat.add_sub_cancel_left]
  cases ah:aA σ id with
  |none=>simp[ah]at ag
  |some o=>
   cases o with
   |box=>simp[ah,jK]at ag
   |row=>simp[ah,jK]at ag
   |bO ku=>exact ak ku ah
 |top c=>exact .top c
def lH(P:Program)(f:FuncId):Bool:=
 match P.funcs[f]? with
 |some fn=>!(fn.name== "runtime.NumGoroutine")&&fn.body.isSome
 |none=>false
theorem ze{P:Program}{f:FuncId}(h:lH P f=true)(args:Array Value)(w:World):(callFunc f args).run P w= .ok (.enter f args) w:=by
 unfold lH at h
 split at h
 ·rename_i fn hf
  simp only[Bool.and_eq_true,Bool.not_eq_true']at h
  have af:fn.body≠none:=by intro e;simp[e]at h
  have ar:fn.name≠ "runtime.NumGoroutine" :=by simpa using h.1
  simp[callFunc,hf,af,ar]
 ·cases h
section
variable {P:Program} {G:aY} {s:aJ} {Q:Exit→aJ→Prop}
theorem kY.call{o:Oper}{x:Operand}{xs:Array Operand}{ts:Array TypeId}(ao:o.op= .call {callee:=.value x,args:=xs,argTypes:=ts}){f:FuncId}(hx:aE G s x= .fn (.func f) [] [])
 (fR:lH P f=true){args:List az}(hy:xs.toList.map (fun y=>lF s.heap (aE G s y))=args)(ni:ep args=true){R:az→bp→Prop}(hc:dn P G f args [] 0 R){K:Nat}{r:az}{bE:bp}
 (fk: ∀dW e2,R dW e2→dW=r∧e2=bE)(DD:fQ K r=true)(zf:j8 K bE=true)(ad:s.base≤s.next):
 kY P G o s ({s with heap:=j9 s.next bE++s.heap,next:=s.next+K}.put o.dst (n8 s.next r)):=by
 intro E a w ⟨β,ro,h⟩ Se Sf DE
 have iF:=h.eval x
 rw[hx]at iF
 generalize he:a.eval x=zg at iF
 cases iF with
 |fn _ _ _ c d aa af _ _=>
  have hr:c= #[]:=by simpa using aa
  have o7:d= #[]:=by simpa using af
  subst hr o7;unfold Oper.wp;simp only[execOp,ao,resolve,he,Deferred.ofValue,Sem.run_bind,Sem.run_pure,Result.andThen_ok,invoke,Array.empty_append,Array.append_empty];rw[ze fR]
  have hlen:xs.toList.length=args.length:=by have:=congrArg List.length hy;simpa using this
  have gv:=hc w β ro (xs.map a.eval) (by simpa using hlen) (fun i y ax=>by
   have hi:(xs.toList.map (fun y=>lF s.heap (aE G s y)))[i]? =some y:=by rw[hy];exact ax
   rw[List.getElem?_map]at hi
   cases DF:xs.toList[i]? with
   |none=>simp[DF]at hi
   |some z=>
    simp[DF]at hi
    have av:=Sd h.heap (h.eval z)
    rw[hi]at av
    have Sg:xs[i]? =some z:=by simpa using DF
    have jJ:(xs.map a.eval).getD i undef=a.eval z:=by simp[Sg]
    rw[jJ]
    exact mf av (lG ni ax)) ⟨by simp[aA],by simp[aA],fun b _ ⟨_,_,ag,_⟩=>by simp[aA]at ag,h.heap.lt⟩ h.ha (by simp[aA])
  refine Calls.mono gv fun e w' aH=>?_
  obtain⟨v,dW,e2,dB,ro',cy,rfl,Sh,c1,gO,cb⟩:=aH;obtain⟨rfl,rfl⟩:=fk dW e2 Sh
  have iT: ∀b,¬Own ([]:bp) β b:=fun b ⟨_,_,ag,_⟩=>by simp[aA]at ag
  have kA: ∀b,b<w.heap.size→w'.heap[b]? =w.heap[b]? :=fun b ad=>cb.frame b ad (iT b)
  have o8:=c1.lower DD
  have fO:=h.heap
  have DG:=fun id o ag=>h.trans.new id o ag
  have bZ: ∀b,ro b→w'.heap[b]? =w.heap[b]? :=fun b ad=>kA b (h.heap.lt b ad)
  have me: ∀k p b,aA s.heap k=some p→p.live=true→b0 (β k)=some b→b<w.heap.size:=fun k p b aj ak a1=>(h.heap.cL k p aj).gI ak a1
  have zh: ∀k p b,aA e2 k=some p→p.live=true→b0 (dB k)=some b→w.heap.size≤b:=by
   intro k p b aj ak a1
   rcases cb.gm b ⟨k,p,aj,ak,a1⟩with hc|hc
   ·exact absurd hc (iT b)
   ·exact hc

  have look: ∀id,aA (j9 s.next e2++s.heap) id=if s.next≤id then(aA e2 (id-s.next)).map (jK s.next)else aA s.heap id:=by
   intro id;rw[JM,vW]
   by_cases hi:s.next≤id
   ·simp only[hi,if_true]
    cases ah:aA e2 (id-s.next)with
    |some p=>simp
    |none=>
     simp
     cases aB:aA s.heap id with
     |none=>rfl
     |some p=>have:=DG _ _ aB;omega
   ·simp[hi]
  have up: ∀x c,bk w ro s.heap β s.next x c→bk w' (fun b=>ro b∨ro' b) (j9 s.next e2++s.heap) (fun k=>if s.next≤k then dB (k-s.next)else β k) (s.next+K) x c:=by
   intro x c hx
   induction hx with
   |au x c hx=>exact .au x c (hx.keep bZ fun _ h=>.inl h)
   |agg cs c ah _ aO=>exact .agg cs c ah aO
   |tuple cs c ah _ aO=>exact .tuple cs c ah aO
   |ptr k off c an ak=>
    have aj: ¬s.next≤k:=by omega
    exact .ptr k off c (by omega) fun t cs a8=>by rw[look,if_neg aj]at a8;simp only[aj,if_false];exact ak t cs a8
   |dh k off c an ak=>
    have aj: ¬s.next≤k:=by omega
    exact .dh k off c (by omega) fun t cs a8=>by rw[look,if_neg aj]at a8;simp only[aj,if_false];exact ak t cs a8
   |cn k i off c an ak=>
    have aj: ¬s.next≤k:=by omega
    exact .cn k i off c (by omega) fun z t n es a8=>by rw[look,if_neg aj]at a8;simp only[aj,if_false];exact ak z t n es a8
   |aL k c an ak=>
    have aj: ¬s.next≤k:=by omega
    exact .aL k c (by omega) fun z t n es a8=>by rw[look,if_neg aj]at a8;simp only[aj,if_false];exact ak z t n es a8
   |fn f p q c d aa af _ _ gp gq=>exact .fn f p q c d aa af gp gq
   |ref k c an ak=>
    have aj: ¬s.next≤k:=by omega
    exact .ref k c (by omega) fun br a8=>by rw[look,if_neg aj]at a8;simp only[aj,if_false];exact ak br a8
   |top c=>exact .top c
  have JN: ∀b,ro' b→ro b∨w.heap.size≤b:=fun b ad=>by
   rcases cb.h3 b ad with h|h|h
   ·exact .inl h
   ·exact absurd h (iT b)
   ·exact .inr h
  refine DE _ _ ⟨fun k=>if s.next≤k then dB (k-s.next)else β k,fun b=>ro b∨ro' b,cP.put (s:={s with heap:=j9 s.next e2++s.heap,next:=s.next+K}) ⟨h.defers,h.size,fun i x hx=>up _ _ (h.slot i x hx),⟨fun id p ag=>?_,?_,?_,?_⟩,?_,?_,h.base⟩ o.dst _ _ ?_⟩ kA
  ·simp only[look]at ag
   by_cases hi:s.next≤id
   ·simp only[hi,if_true]at ag
    cases ah:aA e2 (id-s.next)with
    |none=>simp[ah]at ag
    |some q=>
     simp[ah]at ag;subst ag;obtain⟨_,vX⟩:=o6 zf ah
     have fW:=gO.cL _ q ah
     cases fW with
     |box t cs b arr aC a6 ck eT=>
      refine .box t _ b arr (by simp[hi,aC]) a6 (by rw[ti];exact ck) fun j x ai=>?_
      obtain⟨y,ax,rfl⟩:=tj s.next ai;exact bk.shift ((eT j y ax).lower (o5 (vX t cs rfl) ax)) (fun _ h=>.inr h) DG
     |row t n es xs aC a6 ck=>exact .row t n es xs (by simp only[hi,if_true];exact aC) a6 fun j x ai=>(ck j x ai).keep (fun _ _=>rfl) fun _ h=>.inr h
     |fG t n es aC=>exact .fG t n es (by simp only[hi,if_true];exact aC.keep (fun _ _=>rfl) fun _ h=>.inr h)
     |bO br b o aC a6 ck=>exact .bO br b o (by simp only[hi,if_true];exact aC) a6 (by simp only[hi,if_true];exact br.mono _ _ _ _ (fun x c h=>h.keep (fun _ _=>rfl) fun _ h=>.inr h) ck)
   ·simp only[hi,if_false]at ag
    have fW:=h.heap.cL id p ag
    cases fW with
    |box t cs b arr aC a6 ck eT=>
     have hM:=me id _ b ag rfl (by rw[aC];rfl)
     exact .box t cs b arr (by simp only[hi,if_false];exact aC) ((kA b hM).trans a6) ck fun j x ai=>up _ _ (eT j x ai)
    |row t n es xs aC a6 ck=>
     exact .row t n es xs (by simp only[hi,if_false];exact aC.keep (fun b ad=>kA b (aC.gI ad).1) cb.size) a6 fun j x ai=>(ck j x ai).keep bZ fun _ h=>.inl h
    |fG t n es aC=>exact .fG t n es (by simp only[hi,if_false];exact aC.keep bZ fun _ h=>.inl h)
    |bO br b o aC a6 ck=>exact .bO br b o (by simp only[hi,if_false];exact aC) ((kA b (Array.getElem?_eq_some_iff.1 a6).1).trans a6) (by simp only[hi,if_false];exact br.mono _ _ _ _ (fun x c h=>h.keep bZ fun _ h=>.inl h) ck)
  ·intro id gl p ft b ag dr ak fV a1 dL
   rw[look]at ag dr
   by_cases hi:s.next≤id
   ·simp only[hi,if_true]at ag a1
    cases ah:aA e2 (id-s.next)with
    |none=>simp[ah]at ag
    |some q=>
     have oX:q.live=true:=by simp[ah]at ag;subst ag;cases q<;>first|rfl|exact ak
     have hO:=zh _ q b ah oX a1
     by_cases fZ:s.next≤gl
     ·simp only[fZ,if_true]at dr dL
      cases eP:aA e2 (gl-s.next)with
      |none=>simp[eP]at dr
      |some gu=>
       have vM:gu.live=true:=by simp[eP]at dr;subst dr;cases gu<;>first|rfl|exact fV
       have:=gO.inj _ _ q gu b ah eP oX vM a1 dL
       omega
     ·simp only[fZ,if_false]at dr dL
      have:=me gl ft b dr fV dL
      omega
   ·simp only[hi,if_false]at ag a1
    have DH:=me id p b ag ak a1
    by_cases fZ:s.next≤gl
    ·simp only[fZ,if_true]at dr dL
     cases eP:aA e2 (gl-s.next)with
     |none=>simp[eP]at dr
     |some gu=>
      have vM:gu.live=true:=by simp[eP]at dr;subst dr;cases gu<;>first|rfl|exact fV
      have hO:=zh _ gu b eP vM dL
      omega
    ·simp only[fZ,if_false]at dr dL
     exact h.heap.inj id gl p ft b ag dr ak fV a1 dL
  ·rintro b ad ⟨id,p,ag,ak,a1⟩
   rw[look]at ag
   by_cases hi:s.next≤id
   ·simp only[hi,if_true]at ag a1
    cases ah:aA e2 (id-s.next)with
    |none=>simp[ah]at ag
    |some q=>
     have oX:q.live=true:=by simp[ah]at ag;subst ag;cases q<;>first|rfl|exact ak
     have hO:=zh _ q b ah oX a1
     rcases ad with ad|ad
     ·have:=h.heap.lt b ad;omega
     ·exact gO.fe b ad ⟨_,q,ah,oX,a1⟩
   ·simp only[hi,if_false]at ag a1
    have DH:=me id p b ag ak a1
    rcases ad with ad|ad
    ·exact h.heap.fe b ad ⟨id,p,ag,ak,a1⟩
    ·rcases JN b ad with hc|hc
     ·exact h.heap.fe b hc ⟨id,p,ag,ak,a1⟩
     ·omega
  ·intro b ad
   rcases ad with ad|ad
   ·exact Nat.lt_of_lt_of_le (h.heap.lt b ad) cb.size
   ·exact gO.lt b ad
  ·exact h.ha.keep bZ fun _ h=>.inl h
  ·have t:=h.trans
   refine⟨cb.os.trans t.os,cb.tape.trans t.tape,cb.output.trans t.output,Nat.le_trans t.size cb.size,fun b hM gM=>(kA b (Nat.lt_of_lt_of_le hM t.size)).trans (t.frame b hM gM),?_,fun b ad=>.inl (t.iV b ad),?_,?_,?_,?_⟩
   ·intro b ad
    rcases ad with ad|ad
    ·exact t.h3 b ad
    ·rcases JN b ad with hc|hc
     ·exact t.h3 b hc
     ·exact .inr (.inr (Nat.le_trans t.size hc))
   ·rintro b ⟨id,p,ag,ak,a1⟩
    rw[look]at ag
    by_cases hi:s.next≤id
    ·simp only[hi,if_true]at ag a1
     cases ah:aA e2 (id-s.next)with
     |none=>simp[ah]at ag
     |some q=>
      have oX:q.live=true:=by simp[ah]at ag;subst ag;cases q<;>first|rfl|exact ak
      exact .inr (Nat.le_trans t.size (zh _ q b ah oX a1))
    ·simp only[hi,if_false]at ag a1
     exact t.gm b ⟨id,p,ag,ak,a1⟩
   ·intro id hid p ag
    have aa:=h.base
    have hi: ¬s.next≤id:=by omega
    rw[look,if_neg hi]at ag;simp only[hi,if_false];exact t.dj id hid p ag
   ·intro id p ag
    simp only[look]at ag
    by_cases hi:s.next≤id
    ·simp only[hi,if_true]at ag
     cases ah:aA e2 (id-s.next)with
     |none=>simp[ah]at ag
     |some q=>
      have:=(o6 zf ah).1
      show id<s.next+K;omega
    ·show id<s.next+K
     omega
   ·have:=h.base
    show E.n≤s.next+K;omega
  ·exact bk.shift o8 (fun _ h=>.inr h) DG
theorem dO.call{o:Oper}{x:Operand}{xs:Array Operand}{ts:Array TypeId}(ao:o.op= .call {callee:=.value x,args:=xs,argTypes:=ts}){f:FuncId}(hx:aE G s x= .fn (.func f) [] [])
 (fR:lH P f=true){args:List az}(hy:xs.toList.map (fun y=>lF s.heap (aE G s y))=args)(ni:ep args=true){R:az→bp→Prop}(hc:dn P G f args [] 0 R){K:Nat}{r:az}{bE:bp}
 (fk: ∀dW e2,R dW e2→dW=r∧e2=bE)(DD:fQ K r=true)(zf:j8 K bE=true)(ad:s.base≤s.next):
 dO P G o s ({s with heap:=j9 s.next bE++s.heap,next:=s.next+K}.put o.dst (n8 s.next r)):=(kY.call ao hx fR hy ni hc fk DD zf ad).op
end
end Go.aG
namespace Go.aG
open Go
section
variable {P:Program} {G:aY} {o:Oper} {s:aJ}
theorem c6.JO{w:World}{ro:Nat→Prop}{n:Nat}{es:List (List ba)}{c:Value}(h:c6 w ro (.aL n es) c): ∃b cap,c= .slice b es.length cap:=by
 cases h with
 |aL _ _ b cap=>exact⟨b,cap,rfl⟩
def kB(σ:bp):az→Option Nat
 | .au (.aL _ es)=>some es.length
 | .au (.v (.slice none 0 0))=>some 0
 | .aL id=>match aA σ id with
  |some (.row _ _ _ es)=>some es.length
  |_=>none
 |_=>none
theorem Si{w:World}{ro:Nat→Prop}{σ:bp}{β:Nat→Value}{N:Nat}(aV:gJ w ro σ β N){x:az}{c:Value}(h:bk w ro σ β N x c){m:Nat}(hm:kB σ x=some m): ∃b cap,c= .slice b m cap:=by
 cases h with
 |au x c hx=>
  cases hx with
  |v _ aa=>
   cases c with
   |slice a l hL=>
    cases a with
    |none=>
     cases l with
     |zero=>
      cases hL with
      |zero=>simp[kB]at hm;subst hm;exact⟨_,_,rfl⟩
      |succ=>simp[kB]at hm
     |succ=>simp[kB]at hm
    |some=>simp[kB]at hm
   |_=>simp[kB]at hm
  |ptr=>simp[kB]at hm
  |mp=>simp[kB]at hm
  |li=>simp[kB]at hm
  |aL n es b cap c aa af ar aQ bx=>
   simp only[kB,Option.some.injEq]at hm;subst hm;exact⟨b,cap,rfl⟩
 |aL id c an ak=>
  simp only[kB]at hm
  split at hm
  ·rename_i z t n es ag
   simp only[Option.some.injEq]at hm;subst hm;rw[ak z t n es ag]
   have:=aV.cL id _ ag
   cases this with
   |row _ _ _ xs aa=>
    rcases aa.2 with⟨⟨_,av,_⟩,bl⟩|⟨g,cap,cur,av,_⟩
    ·rw[av,bl];exact⟨_,_,rfl⟩
    ·rw[av];exact⟨_,_,rfl⟩
   |fG _ _ _ aa=>exact aa.JO
  ·cases hm
 |_=>simp[kB]at hm
def isSlice(P:Program)(t:TypeId):Bool:=
 match P.underlying t with
 |some (.slice _)=>true
 |_=>false
theorem DI(x:Operand)(t:TypeId)(ao:o.op= .call {callee:=.builtin .len,args:=#[x],argTypes:=#[t]})(aB:isSlice P t=true){m:Nat}(hm:kB s.heap (aE G s x)=some m):
 cE P G o s (.au (.v (.int .i64 (m:Int)))):=
 fun _ a w β ro ae=>by
  obtain⟨b,cap,hc⟩:=Si ae.heap (ae.eval x) hm;unfold isSlice at aB
  split at aB
  ·rename_i e hu
   refine⟨.int .i64 m,?_,.fw rfl⟩
   simp[execOp,ao,resolve,invoke,builtin,hc,Builtin.len_,run_underlying hu,goInt]
  ·cases aB
theorem DJ(x:Operand)(t:TypeId)(ao:o.op= .call {callee:=.builtin .len,args:=#[x],argTypes:=#[t]})(aB:P.underlying t=some .string){b:ByteArray}(hx:aE G s x= .au (.v (.string b))):
 cE P G o s (.au (.v (.int .i64 (b.size:Int)))):=
 fun _ a w β ro ae=>by
  refine⟨.int .i64 b.size,?_,.fw rfl⟩
  simp[execOp,ao,resolve,invoke,builtin,ae.dU hx,Builtin.len_,run_underlying aB,goInt]
def zi(P:Program)(t:TypeId):Option Nat:=
 match P.underlying t with
 |some (.array n _)=>some n
 |some (.pointer a)=>match P.underlying a with
  |some (.array n _)=>some n
  |_=>none
 |_=>none
theorem JP(x:Operand)(t:TypeId)(ao:o.op= .call {callee:=.builtin .len,args:=#[x],argTypes:=#[t]}){n:Nat}(aB:zi P t=some n):
 cE P G o s (.au (.v (.int .i64 (n:Int)))):=
 fun _ a w β ro ae=>by
  refine⟨.int .i64 n,?_,.fw rfl⟩
  unfold zi at aB
  split at aB
  ·rename_i m e hu
   simp only[Option.some.injEq]at aB;subst aB;simp[execOp,ao,resolve,invoke,builtin,Builtin.len_,run_underlying hu,goInt]
  ·rename_i p hu
   split at aB
   ·rename_i m e Sj
    simp only[Option.some.injEq]at aB;subst aB;simp[execOp,ao,resolve,invoke,builtin,Builtin.len_,run_underlying hu,run_underlying Sj,goInt]
   ·cases aB
  ·cases aB
def iZ(P:Program)(t:TypeId):Option Nat:=
 match P.underlying t with
 |some (.slice e)=>(P.info? e).map (·.size)
 |_=>none
theorem vY{t n:Nat}(h:iZ P t=some n): ∃e,P.underlying t=some (.slice e)∧∀w,(sizeOf e).run P w= .ok n w:=by
 unfold iZ at h
 split at h
 ·rename_i e hu
  cases hi:P.info? e with
  |none=>simp[hi]at h
  |some i=>
   simp[hi]at h;subst h;exact⟨e,hu,fun w=>by simp[sizeOf,typeInfo,hi]⟩
 ·cases h
def lI(σ:bp)(n j:Nat):az→Option az
 | .au (.aL m es)=>if m=n then match es[j]? with
  |some e=>some (.au (.ptr e))
  |none=>none
  else none
 | .aL id=>match aA σ id with
  |some (.row false _ m es)=>if m=n∧j<es.length then some (.cn id j 0)else none
  |some (.row true _ m es)=>if m=n then match es[j]? with
   |some e=>some (.au (.ptr e))
   |none=>none
   else none
  |_=>none
 |_=>none
theorem c6.elem{w:World}{ro:Nat→Prop}{n:Nat}{es:List (List ba)}{c:Value}(h:c6 w ro (.aL n es) c){j:Nat}{e:List ba}(ai:es[j]? =some e):
 ∃a cap,c= .slice (some a) es.length cap∧c6 w ro (.ptr e) (.pointer (some (a.add (j*n)))):=by
 cases h with
 |aL _ _ b cap f aa af ar aQ bx=>
  have dv:j<es.length:=(List.getElem?_eq_some_iff.1 ai).1
  obtain⟨a,rfl,hc⟩:=aQ (by omega)
  have mc:e.length=n:=ar e (List.mem_of_getElem? ai)
  have Ds:j*n+n≤es.length*n:=by rw[←Nat.succ_mul];exact Nat.mul_le_mul_right n dv
  refine⟨a,cap,rfl,.ptr _ _ (fun k=>f (j*n+k)) (fun k x aj=>?_) (fun k x aj=>?_)⟩
  ·have nj:k<n:=by have:=(List.getElem?_eq_some_iff.1 aj).1;omega
   rw[rL,vH];exact hc _ (by omega)
  ·have nj:k<n:=by have:=(List.getElem?_eq_some_iff.1 aj).1;omega
   exact bx _ _ (by rw[oV ar ai k nj];exact aj)
theorem JQ{w:World}{ro:Nat→Prop}{σ:bp}{β:Nat→Value}{N:Nat}(aV:gJ w ro σ β N){x:az}{c:Value}(h:bk w ro σ β N x c){n j:Nat}{p:az}(ak:lI σ n j x=some p):
 ∃a len cap,c= .slice (some a) len cap∧j<len∧bk w ro σ β N p (.pointer (some (a.add (j*n)))):=by
 cases h with
 |au x c hx=>
  cases x with
  |v=>simp[lI]at ak
  |ptr=>simp[lI]at ak
  |mp=>simp[lI]at ak
  |li=>simp[lI]at ak
  |aL m es=>
   simp only[lI]at ak
   split at ak
   ·rename_i hm
    subst hm
    split at ak
    ·rename_i e he
     simp only[Option.some.injEq]at ak;subst ak;obtain⟨a,cap,hc,ae⟩:=hx.elem he;exact⟨a,es.length,cap,hc,(List.getElem?_eq_some_iff.1 he).1,.au _ _ ae⟩
    ·cases ak
   ·cases ak
 |aL id c an aH=>
  simp only[lI]at ak
  split at ak
  ·rename_i t m es ag
   split at ak
   ·rename_i hm
    obtain⟨rfl,ai⟩:=hm;simp only[Option.some.injEq]at ak;subst ak
    have c7:=aV.cL id _ ag
    cases c7 with
    |row _ _ _ xs aa=>
     rcases aa.2 with⟨_,bl⟩|⟨g,cap,cur,av,_⟩
     ·omega
     ·rw[aH _ _ _ _ ag,av]
      refine⟨_,_,_,rfl,ai,.cn _ _ _ _ an fun ht bn cy dX dr=>?_⟩
      rw[ag]at dr;simp only[Option.some.injEq,dS.row.injEq]at dr;obtain⟨_,_,rfl,_⟩:=dr;exact⟨g,_,_,av,by rw[addLit];simp⟩
   ·cases ak
  ·rename_i t m es ag
   split at ak
   ·rename_i hm
    subst hm
    split at ak
    ·rename_i e he
     simp only[Option.some.injEq]at ak;subst ak
     have c7:=aV.cL id _ ag
     cases c7 with
     |fG _ _ _ aa=>
      obtain⟨a,cap,hc,ae⟩:=aa.elem he;exact⟨a,es.length,cap,by rw[aH _ _ _ _ ag,hc],(List.getElem?_eq_some_iff.1 he).1,.au _ _ ae⟩
    ·cases ak
   ·cases ak
  ·cases ak
 |_=>simp[lI]at ak
theorem JR(t:TypeId)(x i:Operand)(ao:o.op= .indexAddr t x i){n:Nat}(aB:iZ P t=some n){k:IntKind}{j:Nat}(hi:aE G s i= .au (.v (.int k (j:Int)))){p:az}(ak:lI s.heap n j (aE G s x)=some p):
 cE P G o s p:=
 fun _ a w β ro ae=>by
  obtain⟨cz,len,cap,hc,ai,c1⟩:=JQ ae.heap (ae.eval x) ak;obtain⟨e,hu,bA⟩:=vY aB;refine⟨_,?_,c1⟩
  have rR:(0:Int)≤j∧(j:Int)<len:=⟨by omega,by omega⟩
  simp[execOp,ao,hc,ae.dU hi,Instr.indexAt,asIntOf,run_underlying hu,ai,bA]
def rS(P:Program)(t:TypeId):Option (Nat × Nat):=
 match P.underlying t with
 |some (.array n e)=>(P.info? e).map fun i=>(n,i.size)
 |_=>none
theorem DK(t:TypeId)(x i:Operand)(ao:o.op= .indexAddr t x i){len n:Nat}(aB:rS P t=some (len,n)){k:IntKind}{j:Nat}(hi:aE G s i= .au (.v (.int k (j:Int))))(ai:j<len)
 {cs:List az}(ff:eZ s.heap (aE G s x)=some cs){p:az}(ak:h5 (j*n) (aE G s x)=some p):
 cE P G o s p:=
 fun _ a w β ro ae=>by
  obtain⟨cz,hc,c1⟩:=Jc ak ff (ae.eval x);unfold rS at aB
  split at aB
  ·rename_i m e hu
   cases rT:P.info? e with
   |none=>simp[rT]at aB
   |some Sk=>
    simp[rT]at aB;obtain⟨rfl,rfl⟩:=aB;refine⟨_,?_,c1⟩
    simp[execOp,ao,hc,ae.dU hi,Instr.indexAt,asIntOf,run_underlying hu,Instr.sureAddr,ai,sizeOf,typeInfo,rT]
  ·cases aB
theorem JS(t:TypeId)(x i:Operand)(ao:o.op= .index t x i)(aB:P.underlying t=some .string){k:IntKind}{j:Nat}(hi:aE G s i= .au (.v (.int k (j:Int)))){b:ByteArray}(hx:aE G s x= .au (.v (.string b)))
 {u:UInt8}(hu:b.data.toList[j]? =some u):cE P G o s (.au (.v (.int .u8 (u.toNat:Int)))):=
 fun _ a w β ro ae=>by
  have ai:b[j]? =some u:=by
   have aa:j<b.size:=by have:=(List.getElem?_eq_some_iff.1 hu).1;simpa using this
   rw[ByteArray.getElem?_lt' b j aa]
   rw[List.getElem?_eq_some_iff]at hu
   obtain⟨_,af⟩:=hu;simp only[Option.some.injEq];rw[←af];rfl
  exact⟨_,by simp[execOp,ao,ae.dU hx,ae.dU hi,Instr.index,asIntOf,run_underlying aB,ai],.fw rfl⟩
def tk(P:Program)(t:TypeId)(f:Nat):Option (Nat × Option Nat):=
 match P.underlying t with
 |some (.struct fs)=>match fs[f]? with
  |some fd=>if scalar P fd.type then some (fd.offset,none)else match kZ P fd.type with
   |some n=>some (fd.offset,some n)
   |none=>none
  |none=>none
 |_=>none
theorem JT(t:TypeId)(x:Operand)(f:Nat)(ao:o.op= .field t x f){off:Nat}(aB:tk P t f=some (off,none)){cs:List az}(hx:aE G s x= .agg cs){v:az}(av:cs[off]? =some v):
 cE P G o s v:=
 fun _ a w β ro ae=>by
  have h:=ae.eval x
  rw[hx]at h;generalize he:a.eval x=c at h
  cases h with
  |agg _ c ah hc=>
   have bz:off<c.size:=by have:=(List.getElem?_eq_some_iff.1 av).1;omega
   unfold tk at aB
   split at aB
   ·rename_i fs hu
    split at aB
    ·rename_i fd hf
     split at aB
     ·rename_i hsc
      simp only[Option.some.injEq,Prod.mk.injEq,and_true]at aB;subst aB;refine⟨c[fd.offset],?_,by simpa[bz]using hc _ v av⟩
      simp[execOp,ao,he,Instr.field,run_underlying hu,hf,asAgg,part,vI hsc,bz]
     ·split at aB
      ·simp at aB
      ·cases aB
    ·cases aB
   ·cases aB
theorem JU(t:TypeId)(x:Operand)(f:Nat)(ao:o.op= .field t x f){off n:Nat}(aB:tk P t f=some (off,some n)){cs:List az}(hx:aE G s x= .agg cs)(hn:off+n≤cs.length):
 cE P G o s (.agg ((cs.drop off).take n)):=
 fun _ a w β ro ae=>by
  have h:=ae.eval x
  rw[hx]at h;generalize he:a.eval x=c at h
  cases h with
  |agg _ c ah hc=>
   unfold tk at aB
   split at aB
   ·rename_i fs hu
    split at aB
    ·rename_i fd hf
     split at aB
     ·simp at aB
     ·split at aB
      ·rename_i m bs
       simp only[Option.some.injEq,Prod.mk.injEq]at aB;obtain⟨rfl,rfl⟩:=aB;obtain⟨g1,g2⟩:=y4 bs w;refine⟨.agg (c.extract fd.offset (fd.offset+m)),?_,.agg _ _ (by simp;omega) fun j y ai=>?_⟩
       ·simp[execOp,ao,he,Instr.field,run_underlying hu,hf,asAgg,part,g1,g2]
       ·rw[List.getElem?_take]at ai
        split at ai
        ·rename_i JV
         rw[List.getElem?_drop]at ai
         have:=hc _ y ai
         have aa:fd.offset+j<c.size:=by omega
         have af:j<(c.extract fd.offset (fd.offset+m)).size:=by simp;omega
         simp only[Array.getD,af,dif_pos];simpa[aa]using this
        ·cases ai
      ·cases aB
    ·cases aB
   ·cases aB
def places(P:Program)(t:TypeId):Option (Nat→Option (Nat × Nat)):=
 match P.underlying t with
 |some (.struct fs)=>if fs.toList.all fun f=>(P.info? f.type).isSome then some fun i=>(fs.toList.map fun f=>(f.offset,((P.info? f.type).map (·.size)).getD 0))[i]? else none
 |some (.array _ e)=>match P.info? e with
  |some inf=>some fun i=>some (i*inf.size,inf.size)
  |none=>none
 |_=>none
def ja(place:Nat→Option (Nat × Nat)):List az→List (Nat × az)→Option (List az)
 |cs,[]=>some cs
 |cs,(i,v)::rest=>match place i with
  |some (off,size)=>if(ch v).length=size∧off+size≤cs.length then ja place (dH cs off (ch v)) rest else none
  |none=>none
theorem JW(off:Nat): ∀(vs:List Value) (k:Nat) (cs:Array Value),off+k+vs.length≤cs.size→
 ((vs.zipIdx k).foldl (fun(cs:Array Value) (x:Value × Nat)=>cs.setIfInBounds (off+x.2) x.1) cs).toList=dH cs.toList (off+k) vs
 |[],k,cs,h=>by simp[dH]
 |v::vs,k,cs,h=>by
  simp only[List.zipIdx_cons,List.foldl_cons];rw[JW off vs (k+1) (cs.setIfInBounds (off+k) v) (by simp at h⊢;omega)]
  have e:=list_seg_step cs.toList (off+k) v vs (by simp at h⊢;omega)
  simp only[dH,Array.toList_setIfInBounds,←Nat.add_assoc]at*;simp only[List.append_assoc]at e;rw[e];simp[Nat.add_assoc]
theorem zj{place place':Nat→Option (Nat × Nat)}(n9: ∀i p,place i=some p→place' i=some p){w:World}{ro:Nat→Prop}{σ:bp}{β:Nat→Value}{N:Nat}(aV:gJ w ro σ β N):
    ∀{ps:List (Nat × az)} {qs:List (Nat × Value)} {cs ds:List az} {xs:Array Value},ja place cs ps=some ds→ps.map (·.1)=qs.map (·.1)→(∀(j:Nat) (p:Nat × az) (q:Nat × Value),ps[j]? =some p→qs[j]? =some q→bk w ro σ β N p.2 q.2∧(ch p.2).all (dT σ)=true)→
    xs.size=cs.length→(∀j x,cs[j]? =some x→bk w ro σ β N x (xs.getD j undef))→
    ∃ys,Instr.fill place' xs qs=some ys∧ys.size=ds.length∧∀j x,ds[j]? =some x→bk w ro σ β N x (ys.getD j undef)
  |[],qs,cs,ds,xs,hf,aj,_,ah,hx=>by
    simp[ja]at hf;subst hf
    have:qs=[]:=by cases qs with
      |nil=>rfl
      |cons=>simp at aj
    subst this;exact⟨xs,by simp[Instr.fill],ah,hx⟩
  |(i,v)::ps,[],cs,ds,xs,hf,aj,_,ah,hx=>by simp at aj
  |(i,v)::ps,(vZ,u)::qs,cs,ds,xs,hf,aj,ae,ah,hx=>by
    simp only[List.map_cons,List.cons.injEq]at aj;obtain⟨rfl,aj⟩:=aj;simp only[ja]at hf
    split at hf
    · rename_i off size ak
      split at hf
      · rename_i hc
        obtain⟨zk,DL⟩:=hc
        have c1:bk w ro σ β N v u:=(ae 0 (i,v) (i,u) rfl rfl).1
        have dz:(ch v).all (dT σ)=true:=(ae 0 (i,v) (i,u) rfl rfl).2
        obtain⟨g1,g2,_⟩:=c1.ch dz aV
        have JX:=JW off u.cells.toList 0 xs (by simp;omega)
        simp only[Nat.add_zero]at JX
        have aO:=zj n9 aV (ps:=ps) (qs:=qs) (cs:=dH cs off (ch v)) (ds:=ds) (xs:=(dH xs.toList off u.cells.toList).toArray) hf aj (fun j p q aa af=>ae (j+1) p q aa af)
          (by rw[List.size_toArray,n5 _ _ _ (by simp;omega),n5 _ _ _ (by omega)];simpa using ah) (fun j x ai=>by
            have:=Dq (bk w ro σ β N) undef (cs:=cs) (vs:=ch v) (xs:=xs.toList) (ys:=u.cells.toList) (off:=off) (by simp;omega) (by simp;omega) (by omega)
              (fun j x ai=>by have:=hx j x ai;simpa[Array.getD_eq_getD_getElem?,List.getD]using this) (fun j x ai=>by have:=g2 j x ai;simpa[Array.getD_eq_getD_getElem?,List.getD]using this) j x ai
            simpa[Array.getD_eq_getD_getElem?,List.getD]using this)
        obtain⟨ys,aa,af,ar⟩:=aO;refine⟨ys,?_,af,ar⟩
        rw[Instr.fill.eq_2,n9 _ _ ak];simp only;rw[if_neg (by simp;omega)]
        have Sl:Array.foldl (fun cs x=>match x with
            |(c,j)=>cs.setIfInBounds (off+j) c) xs u.cells.zipIdx=(dH xs.toList off u.cells.toList).toArray:=by
          apply Array.ext';rw[←JX,←Array.foldl_toList];simp
        rw[Sl];exact aa
      · cases hf
    · cases hf
theorem run_places(w:World): ∀l:List Field,(l.all fun f=>(P.info? f.type).isSome)=true→(l.mapM (fun f=>do
    let n ←sizeOf f.type
    pure (f.offset,n):Field→Sem (Nat × Nat))).run P w= .ok (l.map fun f=>(f.offset,((P.info? f.type).map (·.size)).getD 0)) w
  |[],_=>by simp
  |f::r,h=>by
    simp only[List.all_cons,Bool.and_eq_true]at h
    have aO:=run_places w r h.2
    cases hi:P.info? f.type with
    |none=>simp[hi]at h
    |some inf=>
      have aa:(sizeOf f.type).run P w= .ok inf.size w:=by simp[sizeOf,typeInfo,hi]
      simp only[List.mapM_cons,Sem.run_bind,aa,Result.andThen_ok,Sem.run_pure,aO];simp[hi]
theorem run_build{t:TypeId}{pl:Nat→Option (Nat × Nat)}(ak:places P t=some pl){zs:List Value}(bl:zeroCells P t=some zs){parts:Array (Nat × Value)}{ys:Array Value}(hf:Instr.fill pl zs.toArray parts.toList=some ys)(w:World):
    (Instr.build t parts).run P w= .ok (.agg ys) w:=by
  obtain⟨z,k4,nc,_⟩:=vO bl w;unfold places at ak
  split at ak
  · rename_i fs hu
    split at ak
    · rename_i dz
      simp only[Option.some.injEq]at ak;subst ak
      have aa:=run_places w fs.toList dz
      have af:(fs.mapM (fun f=>do
          let n ←sizeOf f.type
          pure (f.offset,n):Field→Sem (Nat × Nat))).run P w= .ok (fs.toList.map fun f=>(f.offset,((P.info? f.type).map (·.size)).getD 0)).toArray w:=by
        rw[Array.mapM_eq_mapM_toList];simp only[Sem.run_map,aa];rfl
      simp only[Instr.build,Sem.run_bind,k4,Result.andThen_ok,run_underlying hu,af,nc]
      have ar:(fun(x:Nat)=>(fs.toList.map fun f=>(f.offset,((P.info? f.type).map (·.size)).getD 0)).toArray[x]?)=(fun(i:Nat)=>(fs.toList.map fun f=>(f.offset,((P.info? f.type).map (·.size)).getD 0))[i]?):=by
        funext i;simp
      rw[ar,hf];rfl
    · cases ak
  · rename_i n e hu
    split at ak
    · rename_i inf hi
      simp only[Option.some.injEq]at ak;subst ak
      have aa:(sizeOf e).run P w= .ok inf.size w:=by simp[sizeOf,typeInfo,hi]
      simp only[Instr.build,Sem.run_bind,k4,Result.andThen_ok,run_underlying hu,aa,nc,hf];rfl
    · cases ak
  · cases ak
theorem DM{w:World}{ro:Nat→Prop}{σ:bp}{β:Nat→Value}{N:Nat}{zs:List Value}(dz:zs.all Value.oneCell'=true): ∀(j:Nat) (x:az),(zs.map fun z=>az.au (.v z))[j]? =some x→bk w ro σ β N x (zs.toArray.getD j undef):=by
 intro j x ai
 rw[List.getElem?_map]at ai
 cases oZ:zs[j]? with
 |none=>simp[oZ]at ai
 |some y=>
  simp[oZ]at ai;subst ai
  have:y.oneCell'=true:=by
   rw[List.all_eq_true]at dz;exact dz y (List.mem_of_getElem? oZ)
  simpa[oZ]using bk.au (w:=w) (ro:=ro) (σ:=σ) (β:=β) (N:=N) _ _ (.v y this)
theorem DN{E:Entry}{a:Act}{w:World}{β:Nat→Value}{ro:Nat→Prop}(ae:cP E G s a w β ro){parts:Array (Nat × Operand)}{ps:List (Nat × az)}(o9:parts.toList.map (fun p=>(p.1,aE G s p.2))=ps)
 (dz:ps.all (fun p=>(ch p.2).all (dT s.heap))=true):
 ps.map (·.1)=(parts.map fun p=>(p.1,a.eval p.2)).toList.map (·.1)∧
 ∀(j:Nat) (p:Nat × az) (q:Nat × Value),ps[j]? =some p→(parts.map fun p=>(p.1,a.eval p.2)).toList[j]? =some q→bk w ro s.heap β s.next p.2 q.2∧(ch p.2).all (dT s.heap)=true:=by
 subst o9
 refine⟨by simp,fun j p q aa af=>?_⟩
 have ak:(ch p.2).all (dT s.heap)=true:=by
  rw[List.all_eq_true]at dz;exact dz p (List.mem_of_getElem? aa)
 rw[List.getElem?_map]at aa
 rw[Array.toList_map,List.getElem?_map]at af
 cases ai:parts.toList[j]? with
 |none=>simp[ai]at aa
 |some y=>
  simp[ai]at aa af;subst aa af;exact⟨ae.eval _,ak⟩
theorem JY(t:TypeId)(parts:Array (Nat × Operand))(ao:o.op= .build t parts){pl:Nat→Option (Nat × Nat)}(ak:places P t=some pl){zs:List Value}(bl:zeroCells P t=some zs)(qd:zs.all Value.oneCell'=true)
 {ps:List (Nat × az)}(o9:parts.toList.map (fun p=>(p.1,aE G s p.2))=ps)(dz:ps.all (fun p=>(ch p.2).all (dT s.heap))=true){ds:List az}(hf:ja pl (zs.map fun z=>.au (.v z)) ps=some ds):
 cE P G o s (.agg ds):=
 fun _ a w β ro ae=>by
  obtain⟨aa,af⟩:=DN ae o9 dz;obtain⟨ys,g1,g2,g3⟩:=zj (place':=pl) (fun _ _ h=>h) ae.heap hf aa af (xs:=zs.toArray) (by simp) (DM qd)
  refine⟨.agg ys,?_,.agg _ _ g2 g3⟩
  have ad:=run_build (P:=P) ak bl g1 w
  simp only[execOp,ao,Sem.run_bind]
  erw [ad]
  rfl
end
end Go.aG
namespace Go.aG
open Go
mutual
def dV(id:Nat):az→az
 | .au x=>.au x
 | .agg cs=>.agg (dQ id cs)
 | .tuple cs=>.tuple (dQ id cs)
 | .ptr k off=>if k=id then .top else .ptr k off
 | .dh k off=>if k=id then .top else .dh k off
 | .cn k i off=>if k=id then .top else .cn k i off
 | .aL k=>if k=id then .top else .aL k
 | .fn f p q=>.fn f (dQ id p) (dQ id q)
 | .ref k=>if k=id then .top else .ref k
 | .top=>.top
def dQ(id:Nat):List az→List az
 |[]=>[]
 |x::r=>dV id x::dQ id r
end
def c8(id:Nat):bp→bp
 |[]=>[]
 |(k,.box t cs)::r=>if k=id then c8 id r else(k,.box t (dQ id cs))::c8 id r
 |(k,.row z t n es)::r=>if k=id then c8 id r else(k,.row z t n es)::c8 id r
 |(k,.bO br)::r=>if k=id then c8 id r else(k,.bO br)::c8 id r
def dM(id:Nat):dS→dS
 | .box t cs=>.box t (dQ id cs)
 | .row z t n es=>.row z t n es
 | .bO br=>.bO br
theorem gV(d:Nat): ∀(l:List az),(dQ d l).length=l.length
 |[]=>rfl
 |x::r=>by simp[dQ,gV d r]
theorem gP(d:Nat): ∀{l:List az} {j:Nat} {x:az},(dQ d l)[j]? =some x→∃y,l[j]? =some y∧x=dV d y
 |[],j,x,h=>by simp[dQ]at h
 |y::r,j,x,h=>by
  cases j with
  |zero=>simp[dQ]at h;exact⟨y,by simp,h.symm⟩
  |succ j=>simp[dQ]at h;simpa using gP d h
theorem pa(id:Nat): ∀(σ:bp) (k:Nat),aA (c8 id σ) k=if k=id then none else(aA σ k).map (dM id)
 |[],k=>by simp[c8,aA]
 |(j,.box t cs)::r,k=>by
  have aO:=pa id r k
  by_cases ai:j=id
  ·subst ai
   by_cases aj:k=j
   ·subst aj;simpa[c8]using aO
   ·simp[c8,aA,aO,aj,Ne.symm aj]
  ·by_cases aj:j=k
   ·subst aj;simp[c8,aA,ai,dM]
   ·simp[c8,aA,ai,aj,aO]
 |(j,.row z t n es)::r,k=>by
  have aO:=pa id r k
  by_cases ai:j=id
  ·subst ai
   by_cases aj:k=j
   ·subst aj;simpa[c8]using aO
   ·simp[c8,aA,aO,aj,Ne.symm aj]
  ·by_cases aj:j=k
   ·subst aj;simp[c8,aA,ai,dM]
   ·simp[c8,aA,ai,aj,aO]
 |(j,.bO br)::r,k=>by
  have aO:=pa id r k
  by_cases ai:j=id
  ·subst ai
   by_cases aj:k=j
   ·subst aj;simpa[c8]using aO
   ·simp[c8,aA,aO,aj,Ne.symm aj]
  ·by_cases aj:j=k
   ·subst aj;simp[c8,aA,ai,dM]
   ·simp[c8,aA,ai,aj,aO]
theorem h6(id:Nat)(o:dS):(dM id o).live=o.live:=by cases o<;>rfl
section
variable {P:Program} {G:aY} {s:aJ} {E:Entry} {a:Act} {w w':World} {β:Nat→Value} {ro:Nat→Prop}
theorem cP.renew(h:cP E G s a w β ro)(id:Nat)(ad:s.base≤id)(bz:id<s.next){t0:TypeId}{n0:Nat}{v7:List (List ba)}(hid:aA s.heap id=some (.row false t0 n0 v7))(o:dS)(val:Value)
 (na:w'.os=w.os)(nb:w'.tape=w.tape)(jH:w'.output=w.output)(bA:w.heap.size≤w'.heap.size)(hw: ∀b,b<w.heap.size→b0 (β id)≠some b→w'.heap[b]? =w.heap[b]?)
 (gr: ∀b,b0 val=some b→b0 (β id)=some b∨w.heap.size≤b)(_hlive:o.live=true)
 (c7:kt w' ro ((id,o)::c8 id s.heap) (gL β id val) s.next id o):
 cP E G ⟨dQ id s.cl,(id,o)::c8 id s.heap,s.next,s.base⟩ a w' (gL β id val) ro:=by
 have bZ: ∀b,ro b→w'.heap[b]? =w.heap[b]? :=fun b ae=>hw b (h.heap.lt b ae) fun ad=>h.heap.fe b ae ⟨id,_,hid,rfl,ad⟩
 have ag: ∀k,k≠id→aA ((id,o)::c8 id s.heap) k=(aA s.heap k).map (dM id):=fun k aj=>by simp[aA,Ne.symm aj,pa,aj]
 have rM:aA ((id,o)::c8 id s.heap) id=some o:=by simp[aA]
 have key: ∀x c,bk w ro s.heap β s.next x c→bk w' ro ((id,o)::c8 id s.heap) (gL β id val) s.next (dV id x) c:=by
  intro x c hx
  induction hx with
  |au x c hx=>exact .au x c (hx.keep bZ fun _ h=>h)
  |agg cs c ah _ aO=>
   refine .agg _ c (by rw[gV];exact ah) fun j x ai=>?_
   obtain⟨y,ax,rfl⟩:=gP id ai;exact aO j y ax
  |tuple cs c ah _ aO=>
   refine .tuple _ c (by rw[gV];exact ah) fun j x ai=>?_
   obtain⟨y,ax,rfl⟩:=gP id ai;exact aO j y ax
  |ptr k off c an ak=>
   simp only[dV]
   split
   ·exact .top _
   ·rename_i aj
    refine .ptr k off c an fun t cs a8=>?_
    rw[cu _ _ aj];rw[ag k aj]at a8
    cases ah:aA s.heap k with
    |none=>simp[ah]at a8
    |some p=>
     cases p with
     |box bn cs'=>exact ak bn cs' ah
     |row=>simp[ah,dM]at a8
     |bO=>simp[ah,dM]at a8
  |dh k off c an ak=>
   simp only[dV]
   split
   ·exact .top _
   ·rename_i aj
    refine .dh k off c an fun t cs a8=>?_
    rw[cu _ _ aj];rw[ag k aj]at a8
    cases ah:aA s.heap k with
    |none=>simp[ah]at a8
    |some p=>
     cases p with
     |box bn cs'=>exact ak bn cs' ah
     |row=>simp[ah,dM]at a8
     |bO=>simp[ah,dM]at a8
  |cn k i off c an ak=>
   simp only[dV]
   split
   ·exact .top _
   ·rename_i aj
    refine .cn k i off c an fun z t n es a8=>?_
    rw[cu _ _ aj];rw[ag k aj]at a8
    cases ah:aA s.heap k with
    |none=>simp[ah]at a8
    |some p=>
     cases p with
     |box bn cs'=>simp[ah,dM]at a8
     |bO=>simp[ah,dM]at a8
     |row ht bn cy dX=>
      simp only[ah,Option.map_some,dM,Option.some.injEq,dS.row.injEq]at a8;obtain⟨rfl,rfl,rfl,rfl⟩:=a8;exact ak _ _ _ _ ah
  |aL k c an ak=>
   simp only[dV]
   split
   ·exact .top _
   ·rename_i aj
    refine .aL k c an fun z t n es a8=>?_
    rw[cu _ _ aj];rw[ag k aj]at a8
    cases ah:aA s.heap k with
    |none=>simp[ah]at a8
    |some p=>
     cases p with
     |box bn cs'=>simp[ah,dM]at a8
     |bO=>simp[ah,dM]at a8
     |row ht bn cy dX=>exact ak _ _ _ _ ah
  |fn f p q c d aa af _ _ gp gq=>
   refine .fn f _ _ c d (by rw[gV];exact aa) (by rw[gV];exact af) (fun j x ai=>?_) (fun j x ai=>?_)
   ·obtain⟨y,ax,rfl⟩:=gP id ai
    exact gp j y ax
   ·obtain⟨y,ax,rfl⟩:=gP id ai
    exact gq j y ax
  |ref k c an ak=>
   simp only[dV]
   split
   ·exact .top _
   ·rename_i aj
    refine .ref k c an fun br a8=>?_
    rw[cu _ _ aj];rw[ag k aj]at a8
    cases ah:aA s.heap k with
    |none=>simp[ah]at a8
    |some p=>
     cases p with
     |box=>simp[ah,dM]at a8
     |row=>simp[ah,dM]at a8
     |bO ku=>exact ak ku ah
  |top c=>exact .top c
 have dj: ∀k p,k≠id→aA ((id,o)::c8 id s.heap) k=some p→∃q,aA s.heap k=some q∧p=dM id q:=by
  intro k p aj a8;rw[ag k aj]at a8
  cases ah:aA s.heap k with
  |none=>simp[ah]at a8
  |some q=>simp[ah]at a8;exact⟨q,rfl,a8.symm⟩
 refine⟨h.defers,by simpa[gV]using h.size,fun i x hx=>?_,⟨fun k p aj=>?_,fun k bj p ft b aj dZ ak fV a1 dL=>?_,fun b ae=>?_,fun b ae=>Nat.lt_of_lt_of_le (h.heap.lt b ae) bA⟩,
  h.ha.keep bZ fun _ h=>h,?_,h.base⟩
 ·obtain⟨y,ax,rfl⟩:=gP id hx
  exact key _ _ (h.slot i y ax)
 ·by_cases bf:k=id
  ·subst bf
   rw[rM]at aj;simp only[Option.some.injEq]at aj;subst aj;exact c7
  ·obtain⟨q,aH,rfl⟩:=dj k p bf aj
   have fW:=h.heap.cL k q aH
   have bX:q.live=true→∀b,b0 (β k)=some b→w'.heap[b]? =w.heap[b]? :=fun an b a1=>
    hw b (fW.gI an a1) fun iE=>bf (h.heap.inj k id q _ b aH hid an rfl a1 iE)
   cases fW with
   |box t cs b arr aa af ar aQ=>
    refine .box t _ b arr (by rw[cu _ _ bf];exact aa) ((bX rfl b (by rw[aa];rfl)).trans af) (by rw[gV];exact ar) fun j x ai=>?_
    obtain⟨y,ax,rfl⟩:=gP id ai;exact key _ _ (aQ j y ax)
   |row t n es xs aa af ar=>exact .row t n es xs (by rw[cu _ _ bf];exact aa.keep (fun b ad=>bX rfl b ad) bA) af fun j x ai=>(ar j x ai).keep bZ fun _ h=>h
   |fG t n es aa=>exact .fG t n es (by rw[cu _ _ bf];exact aa.keep bZ fun _ h=>h)
   |bO br b o aa af ar=>exact .bO br b o (by rw[cu _ _ bf];exact aa) ((bX rfl b aa).trans af) (by rw[cu _ _ bf];exact br.mono _ _ _ _ (fun x c h=>h.keep bZ fun _ h=>h) ar)
 ·by_cases bf:k=id
  ·by_cases fX:bj=id
   ·rw[bf,fX]
   ·subst bf
    rw[dY]at a1;rw[cu _ _ fX]at dL;obtain⟨q,aH,rfl⟩:=dj bj ft fX dZ;rw[h6]at fV
    have af:=(h.heap.cL bj q aH).gI fV dL
    rcases gr b a1 with aa|aa
    ·exact(h.heap.inj bj k q _ b aH hid fV rfl dL aa).symm
    ·omega
  ·obtain⟨q,aH,rfl⟩:=dj k p bf aj
   rw[h6]at ak;rw[cu _ _ bf]at a1
   by_cases fX:bj=id
   ·subst fX
    rw[dY]at dL
    have af:=(h.heap.cL k q aH).gI ak a1
    rcases gr b dL with aa|aa
    ·exact h.heap.inj k bj q _ b aH hid ak rfl a1 aa
    ·omega
   ·obtain⟨gu,rN,rfl⟩:=dj bj ft fX dZ
    rw[h6]at fV;rw[cu _ _ fX]at dL;exact h.heap.inj k bj q gu b aH rN ak fV a1 dL
 ·rintro⟨k,p,aj,ak,a1⟩
  by_cases bf:k=id
  ·subst bf
   rw[dY]at a1
   rcases gr b a1 with aa|aa
   ·exact h.heap.fe b ae ⟨k,_,hid,rfl,aa⟩
   ·have:=h.heap.lt b ae;omega
  ·obtain⟨q,aH,rfl⟩:=dj k p bf aj
   rw[h6]at ak;rw[cu _ _ bf]at a1;exact h.heap.fe b ae ⟨k,q,aH,ak,a1⟩
 ·have t:=h.trans
  refine⟨na.trans t.os,nb.trans t.tape,jH.trans t.output,Nat.le_trans t.size bA,fun b hM gM=>?_,t.h3,t.iV,?_,fun k aj p a8=>?_,fun k p a8=>?_,t.le⟩
  ·by_cases iE:b0 (β id)=some b
   ·rcases t.gm b ⟨id,_,hid,rfl,iE⟩with hc|hc
    ·exact absurd hc gM
    ·omega
   ·rw[hw b (Nat.lt_of_lt_of_le hM t.size) iE]
    exact t.frame b hM gM
  ·rintro b ⟨k,p,aj,ak,a1⟩
   by_cases bf:k=id
   ·subst bf
    rw[dY]at a1
    rcases gr b a1 with aa|aa
    ·exact t.gm b ⟨k,_,hid,rfl,aa⟩
    ·exact .inr (Nat.le_trans t.size aa)
   ·obtain⟨q,aH,rfl⟩:=dj k p bf aj
    rw[h6]at ak;rw[cu _ _ bf]at a1;exact t.gm b ⟨k,q,aH,ak,a1⟩
  ·have bf:k≠id:=by have:=h.base;omega
   obtain⟨q,aH,rfl⟩:=dj k p bf a8;rw[cu _ _ bf];exact t.dj k aj q aH
  ·by_cases bf:k=id
   ·subst bf;exact bz
   ·obtain⟨q,aH,rfl⟩:=dj k p bf a8
    exact t.new k q aH
def chunk{α:Type}(n:Nat):Nat→List α→List (List α)
 |0,_=>[]
 |k+1,l=>l.take n::chunk n k (l.drop n)
theorem v8{α:Type}(n:Nat): ∀(k:Nat) (l:List α),(chunk n k l).length=k
 |0,_=>rfl
 |k+1,l=>by simp[chunk,v8 n k]
theorem JZ{α:Type}(n:Nat): ∀(k:Nat) (l:List α),l.length=k*n→∀e∈chunk n k l,e.length=n
 |0,_,_,e,he=>by simp[chunk]at he
 |k+1,l,h,e,he=>by
  rw[Nat.succ_mul]at h;simp only[chunk,List.mem_cons]at he
  rcases he with rfl|he
  ·simp;omega
  ·exact JZ n k (l.drop n) (by simp;omega) e he
theorem J0{α:Type}(n:Nat): ∀(k:Nat) (l:List α),l.length=k*n→(chunk n k l).flatten=l
 |0,l,h=>by
  have:l=[]:=List.eq_nil_of_length_eq_zero (by simpa using h)
  simp[chunk,this]
 |k+1,l,h=>by
  rw[Nat.succ_mul]at h;simp only[chunk,List.flatten_cons];rw[J0 n k (l.drop n) (by simp;omega),List.take_append_drop]
theorem jG.DO{w:World}{t:TypeId}{n:Nat}{v:Value}{len:Nat}{xs:List Value}(h:w.ownsRow 0 t n v len xs):jG w t n v len xs:=by
 obtain⟨an,ae⟩:=h
 refine⟨an,?_⟩
 rcases ae with⟨aa,af⟩|⟨g,cap,cur,av,_,ag,hle,h4,ff,aB⟩
 ·exact .inl ⟨⟨none,aa,fun _ h=>(by cases h)⟩,af⟩
 ·by_cases hc:cap=0
  ·subst hc
   have:len=0:=by omega
   subst this;exact .inl ⟨⟨_,av,fun a aI=>(by cases aI;exact(Array.getElem?_eq_some_iff.1 ag).1)⟩,rfl⟩
  ·exact .inr ⟨g,cap,cur,av,by omega,ag,hle,h4,ff,aB⟩
def tl(P:Program)(G:aY)(o:Oper)(s:aJ)(t:TypeId)(n:Nat)(es:List (List ba)):Prop:=
 (∀e∈es,e.length=n)∧∀E a w β ro,cP E G s a w β ro→∃v xs w',(execOp a.eval o).run P w= .ok (.value v) w'∧w'.ownsRow 0 t n v es.length xs∧w.grownBy w' none∧(∀b,b0 v=some b→w.heap.size≤b)∧
  ∀j x,es.flatten[j]? =some x→c6 w ro x (xs.getD j undef)
theorem dO.newRow{o:Oper}{t:TypeId}{n:Nat}{es:List (List ba)}(ad:s.base≤s.next)(aV:tl P G o s t n es):
 dO P G o s ({s with heap:=(s.next,.row false t n es)::s.heap,next:=s.next+1}.put o.dst (.aL s.next)):=by
 obtain⟨hn,h⟩:=aV
 intro E a w ⟨β,ro,ae⟩ K Q hK
 obtain⟨v,xs,w',cD,iC,cJ,gr,e0⟩:=h E a w β ro ae
 unfold Oper.wp
 rw[cD]
 have j6:aA s.heap s.next=none:=by
  cases ag:aA s.heap s.next with
  |none=>rfl
  |some p=>have:=ae.trans.new _ _ ag;omega
 have hw: ∀b,b<w.heap.size→w'.heap[b]? =w.heap[b]? :=fun b ad=>cJ.block b ad (by simp)
 have bZ: ∀b,ro b→w'.heap[b]? =w.heap[b]? :=fun b ad=>hw b (ae.heap.lt b ad)
 have fO:cP E G {s with heap:=(s.next,.row false t n es)::s.heap,next:=s.next+1} a w' (gL β s.next v) ro:=by
  refine ae.new s.next j6 ad (Nat.le_refl _) _ v cJ.os cJ.tape cJ.output cJ.size hw gr rfl ?_
  exact .row t n es xs (by rw[dY];exact .DO iC) hn fun j x ai=>(e0 j x ai).keep bZ fun _ h=>h
 refine hK _ _ ⟨_,ro,fO.put o.dst _ _ ?_⟩
 exact .aL _ _ (Nat.lt_succ_self _) fun z bn cy dX _=>(dY _ _ _).symm
theorem Sm{o:Oper}(t:TypeId)(len:Nat)(parts:Array (Nat × Operand))(ao:o.op= .buildSlice t len parts){e n:Nat}(hu:P.underlying t=some (.slice e))(bA:(P.info? e).map (·.size)=some n)
 {zs:List Value}(bl:zeroCells P e=some zs)(qd:zs.all Value.oneCell'=true)(k7:zs.length=n)(hlen:0<len*n∧len*n≤16777216)
 {ps:List (Nat × az)}(o9:parts.toList.map (fun p=>(p.1,aE G s p.2))=ps)(dz:ps.all (fun p=>(ch p.2).all (dT s.heap))=true)
 {ds:List az}(hf:ja (fun i=>some (i*n,n)) ((List.replicate len (zs.map fun z=>az.au (.v z))).flatten) ps=some ds){rs:List ba}(mg:hN ds=some rs):
 tl P G o s e n (chunk n len rs):=by
 have lJ:ds.length=len*n:=by
  have: ∀(ps:List (Nat × az)) (cs ds:List az),ja (fun i=>some (i*n,n)) cs ps=some ds→ds.length=cs.length:=by
   intro ps
   induction ps with
   |nil=>intro cs ds h;simp[ja]at h;rw[h]
   |cons p r aO=>
    intro cs ds h;obtain⟨i,v⟩:=p;simp only[ja]at h
    split at h
    ·rename_i hc
     rw[aO _ _ h,n5 _ _ _ (by omega)]
    ·cases h
  rw[this ps _ _ hf,iW (n:=n) (fun e he=>by rw[List.mem_replicate]at he;rw[he.2];simpa using k7)]
  simp
 have J1:rs.length=len*n:=by rw[←lJ,y6 mg];simp
 refine⟨JZ n len rs J1,fun E a w β ro ae=>?_⟩
 obtain⟨aa,af⟩:=DN ae o9 dz
 obtain⟨z,k4,nc,_⟩:=vO bl w
 have e0:(List.replicate len (zs.map fun z=>az.au (.v z))).flatten.length=len*n:=by
  rw[iW (n:=n) (fun e he=>by rw[List.mem_replicate]at he;rw[he.2];simpa using k7)];simp
 have Sn:zs.toArray.size=n:=by simpa using k7
 have pb:0<n:=by
  rcases Nat.eq_zero_or_pos n with h|h
  ·rw[h]at hlen;simp at hlen
  ·exact h
 obtain⟨ys,g1,g2,g3⟩:=zj (place':=fun i=>some (i*n,n)) (fun _ _ h=>h) ae.heap hf aa af (xs:=(Array.range (len*n)).map fun x=>zs.toArray[x%zs.toArray.size]!) (by rw[e0];simp) (fun j x ai=>by
  have dv:j<len*n:=by rw[←e0];exact(List.getElem?_eq_some_iff.1 ai).1
  have hm:j=(j/ n)*n+j%n:=by rw[Nat.mul_comm];exact(Nat.div_add_mod j n).symm
  have mh:j%n<n:=Nat.mod_lt _ pb
  have mi:j/ n<len:=by rw[Nat.div_lt_iff_lt_mul pb];exact dv
  rw[hm,oV (n:=n) (fun e he=>by rw[List.mem_replicate]at he;rw[he.2];simpa using k7) (i:=j/ n) (e:=zs.map fun z=>az.au (.v z)) (by simp[mi]) (j%n) mh]at ai
  have:=DM (w:=w) (ro:=ro) (σ:=s.heap) (β:=β) (N:=s.next) qd (j%n) x ai
  have aC:(Array.map (fun x=>zs.toArray[x%zs.toArray.size]!) (Array.range (len*n))).getD j undef=zs.toArray.getD (j%n) undef:=by
   have ar:j%n<zs.length:=by omega
   simp[dv,k7,List.getElem?_eq_getElem ar]
  rw[aC]
  exact this)
 have k2:ys.toList.length=(chunk n len rs).length*n:=by rw[v8];simpa[lJ]using g2
 refine⟨.slice (some ⟨w.heap.size,0,none⟩) len len,ys.toList,w.alloc (.cells ys e),?_,?_,World.grownBy_alloc w _ none,fun b a1=>?_,fun j x ai=>?_⟩
 ·have wa:(sizeOf e).run P w= .ok n w:=by
   cases hi:P.info? e with
   |none=>simp[hi]at bA
   |some i=>simp[hi]at bA;simp[sizeOf,typeInfo,hi,bA]
  have bX: ¬len*n>2^24:=by omega
  have jL: ¬len*n=0:=by omega
  simp only[execOp,ao,Sem.run_bind,Instr.buildSlice,run_underlying hu,Result.andThen_ok,wa,if_neg bX,if_neg jL,k4,Sem.run_pure,nc]
  erw [g1]
  simp[newRow]
 ·rw[v8]
  exact World.ownsRow_lit w ys len (Nat.zero_le _) (by simp only[maxLen];have:=Nat.le_mul_of_pos_right len pb;omega) (by simpa[lJ]using g2)
 ·simp only[b0]at a1
  split at a1
  ·cases a1
  ·simp at a1;omega
 ·rw[J0 n len rs J1]at ai
  have ar:=g3 j (.au x) (by rw[y6 mg];simp[ai])
  cases ar with
  |au _ _ ar=>
   have:ys.toList.getD j undef=ys.getD j undef:=by simp[List.getD,Array.getD_eq_getD_getElem?]
   rw[this];exact ar
end
end Go.aG
