/- The AV calculus, part G: code, loops, the beginning and the end of a call. Conditions: none. -/
import Derived.Test.YtmkpmgfieagphaaGreatDoorKSMf
namespace Go.aL
open Go
def lift(E:Entry)(G:a8)(Q:Exit→aP→Prop):Exit→Act→World→Prop:=fun e a w=>∃s,Q e s∧Rel E G s a w
def b2(P:Program)(G:a8)(c:Code)(Q:Exit→aP→Prop)(s:aP):Prop:=∀E a w,Rel E G s a w→c.wp P (lift E G Q) a w
def cv(P:Program)(G:a8)(ops:Array Oper)(Q:Exit→aP→Prop)(l:List Oper)(s:aP):Prop:=∀E a w,Rel E G s a w→wpList P ops (lift E G Q) l a w
section
variable {P:Program} {G:a8} {Q:Exit→aP→Prop} {s:aP}
theorem b2.region{id:Nat}{l:List Oper}(h:cv P G l.toArray Q l s):b2 P G (.region id l.toArray false) Q s:=fun E a w ag=>wp_region_lit (h E a w ag)
theorem cv.nil{ops:Array Oper}(h:Q .normal s):cv P G ops Q [] s:=fun _ _ _ ag=>wpList_nil ⟨s,h,ag⟩
theorem cv.cons{ops:Array Oper}{o:Oper}{rest:List Oper}{bp:aP}(ah:o.guard=none)(h:dR P G o s bp)(k:cv P G ops Q rest bp):cv P G ops Q (o::rest) s:=
 fun E a w ag=>wpList_plain ah fun _ hK=>h E a w ag _ _ fun bc w' dX=>hK bc w' (k E bc w' dX)
def mm(ops:Array Oper)(j:Nat):Option Nat:=(ops[j]?).bind (·.dst)
theorem J9{ops:Array Oper}{E:Entry}{a:Act}{w:World}(ag:Rel E G s a w){j d:Nat}(af:mm ops j=some d){b:Bool}(hd:s.cS[d]? =some (.av (.v (.bool b)))):yielded ops a.tmps j=some b:=by
 obtain⟨β,ro,h⟩:=ag
 have ai:=bs.val (h.slot d _ hd)
 have bH:d<a.tmps.size:=by rw[h.size];exact(List.getElem?_eq_some_iff.1 hd).1
 unfold mm at af
 unfold yielded
 rw[af]
 simp only[Option.bind_some]
 simp[bH]at ai
 simp[bH,ai]
theorem Rt{ops:Array Oper}{E:Entry}{a:Act}{w:World}(ag:Rel E G s a w){j d:Nat}(af:mm ops j=some d){cs:List aD}(hd:s.cS[d]? =some (.tuple cs)):yielded ops a.tmps j=none:=by
 obtain⟨β,ro,h⟩:=ag
 have ai:=h.slot d _ hd
 have bH:d<a.tmps.size:=by rw[h.size];exact(List.getElem?_eq_some_iff.1 hd).1
 unfold mm at af
 unfold yielded
 rw[af]
 simp only[Option.bind_some]
 simp[bH]at ai
 generalize a.tmps[d]=c at ai
 have aI:a.tmps[d]? =some a.tmps[d]:=by simp[bH]
 have ai:=h.slot d _ hd
 simp[bH]at ai
 cases eX:a.tmps[d]with
 |tuple x=>simp[aI,eX]
 |_=>rw[eX]at ai;cases ai
theorem cv.guarded{ops:Array Oper}{o:Oper}{rest:List Oper}{bp:aP}{j d:Nat}{b:Bool}(ah:o.guard=some (j,b))(af:mm ops j=some d)(hd:s.cS[d]? =some (.av (.v (.bool b))))
 (h:dR P G o s bp)(k:cv P G ops Q rest bp):cv P G ops Q (o::rest) s:=
 fun E a w ag=>wpList_step fun _ hK=>by
  have ax:=J9 ag af hd
  simp only[Region.wanted,ah,ax,beq_self_eq_true,if_true];exact h E a w ag _ _ fun bc w' dX=>hK bc w' (k E bc w' dX)
theorem Rel.Dq{E:Entry}{a:Act}{w:World}(ag:Rel E G s a w)(dst:Option Nat):Rel E G (s.put dst (.tuple [])) (a.put dst undef) w:=by
 obtain⟨β,ro,h⟩:=ag
 exact⟨β,ro,h.put dst _ _ (.tuple _ _ rfl (by simp))⟩
theorem cv.zdg{ops:Array Oper}{o:Oper}{rest:List Oper}{j d:Nat}{b:Bool}(ah:o.guard=some (j,b))(af:mm ops j=some d)(hd:s.cS[d]? =some (.av (.v (.bool (!b)))))
 (k:cv P G ops Q rest (s.put o.dst (.tuple []))):cv P G ops Q (o::rest) s:=
 fun E a w ag=>by
  have ax:=J9 ag af hd
  refine wpList_skip ?_ (k E _ w (ag.Dq o.dst))
  simp only[Region.wanted,ah,ax]
  cases b<;>rfl
theorem cv.zdh{ops:Array Oper}{o:Oper}{rest:List Oper}{j d:Nat}{b:Bool}(ah:o.guard=some (j,b))(af:mm ops j=some d){cs:List aD}(hd:s.cS[d]? =some (.tuple cs))
 (k:cv P G ops Q rest (s.put o.dst (.tuple []))):cv P G ops Q (o::rest) s:=
 fun E a w ag=>by
  have ax:=Rt ag af hd
  refine wpList_skip ?_ (k E _ w (ag.Dq o.dst))
  simp only[Region.wanted,ah,ax]
  cases b<;>rfl
def zdi(P:Program)(G:a8)(c:Code)(Q:Exit→aP→Prop):Exit→aP→Prop
 | .normal,s=>b2 P G c Q s
 |e,s=>Q e s
theorem b2.seq{x y:Code}(h:b2 P G x (zdi P G y Q) s):b2 P G (.seq x y) Q s:=fun E a w ag=>by
 refine wp_seq (wp_mono (h E a w ag) fun e bc w' aI=>?_)
 obtain⟨bp,aa,ae⟩:=aI
 cases e with
 |normal=>exact aa E bc w' ae
 |_=>exact⟨bp,aa,ae⟩
theorem b2.cond{x:Operand}{c d:Code}{b:Bool}(hx:aJ G s x= .av (.v (.bool b)))(aH:b=true→b2 P G c Q s)(hf:b=false→b2 P G d Q s):b2 P G (.cond x c d) Q s:=fun E a w ag=>by
 obtain⟨β,ro,h⟩:=ag
 exact wp_cond_split (h.ef hx) (fun e=>aH e E a w ⟨β,ro,h⟩) (fun e=>hf e E a w ⟨β,ro,h⟩)
theorem b2.Ru{x:Operand}{c d:Code}(hx:aJ G s x= .av (.v (.bool true)))(aH:b2 P G c Q s):b2 P G (.cond x c d) Q s:=b2.cond hx (fun _=>aH) (fun h=>by cases h)
theorem b2.Rv{x:Operand}{c d:Code}(hx:aJ G s x= .av (.v (.bool false)))(hf:b2 P G d Q s):b2 P G (.cond x c d) Q s:=b2.cond hx (fun h=>by cases h) (fun _=>hf)
theorem b2.skip(h:Q .normal s):b2 P G .skip Q s:=fun _ _ _ ag=>wp_skip ⟨s,h,ag⟩
theorem b2.ret(h:Q .ret s):b2 P G .ret Q s:=fun _ _ _ ag=>wp_ret ⟨s,h,ag⟩
theorem b2.exit{id:Nat}(h:Q (.exit id) s):b2 P G (.exit id) Q s:=fun _ _ _ ag=>wp_exit ⟨s,h,ag⟩
theorem b2.mono{c:Code}{Q':Exit→aP→Prop}(h:b2 P G c Q s)(aI: ∀e s,Q e s→Q' e s):b2 P G c Q' s:=fun E a w ag=>
 wp_mono (h E a w ag) fun e _ _ ⟨bp,aa,ae⟩=>⟨bp,aI e bp aa,ae⟩
def Rw(id:Nat)(Q:Exit→aP→Prop):Exit→aP→Prop
 | .exit gl,s=>bif Nat.beq gl id then Q .normal s else Q (.exit gl) s
 |e,s=>Q e s
theorem b2.block{id:Nat}{c:Code}(h:b2 P G c (Rw id Q) s):b2 P G (.block id c) Q s:=fun E a w ag=>by
 refine wp_block (wp_mono (h E a w ag) fun e bc w' aI=>?_)
 obtain⟨bp,aa,ae⟩:=aI
 cases e with
 |exit gl=>
  simp only[Rw,Exit.inBlock]at*
  split
  ·rename_i he
   have ad:Nat.beq gl id=true:=by simpa using he
   rw[ad]at aa;exact⟨bp,aa,ae⟩
  ·rename_i he
   have ad:Nat.beq gl id=false:=by
    cases aI:Nat.beq gl id with
    |false=>rfl
    |true=>exact absurd (Nat.eq_of_beq_eq_true aI) he
   rw[ad]at aa;exact⟨bp,aa,ae⟩
 |_=>exact⟨bp,aa,ae⟩
def cn(s bp:aP):Prop:=∀E (G:a8) a w,Rel E G s a w→Rel E G bp a w
theorem cn.refl(s:aP):cn s s:=fun _ _ _ _ h=>h
theorem cn.trans{s bp Rx:aP}(h:cn s bp)(k:cn bp Rx):cn s Rx:=fun E G a w ag=>k E G a w (h E G a w ag)
theorem b2.le{c:Code}{bp:aP}(h:cn s bp)(k:b2 P G c Q bp):b2 P G c Q s:=fun E a w ag=>k E a w (h E G a w ag)
theorem cv.le{ops:Array Oper}{l:List Oper}{bp:aP}(h:cn s bp)(k:cv P G ops Q l bp):cv P G ops Q l s:=fun E a w ag=>k E a w (h E G a w ag)
theorem b2.loop{ι:Type}(st:ι→aP)(inv:ι→Prop)(mu:ι→Nat){c:Code}(x:ι)(aM:cn s (st x))(hi:inv x)
    (round: ∀x,inv x→b2 P G c (fun e bp=>match e with
      | .normal=>∃y,inv y∧mu y<mu x∧cn bp (st y)
      |e=>Q e bp) (st x)):b2 P G (.loop c) Q s:=fun E a w ag=>by
  have key: ∀n x,mu x=n→inv x→∀a w,Rel E G (st x) a w→(Code.loop c).wp P (lift E G Q) a w:=by
    intro n x hn hx a w ag;refine wp_loop (fun a w=>∃y,inv y∧Rel E G (st y) a w) (fun a w=>Classical.epsilon fun m=>∃y,inv y∧Rel E G (st y) a w∧mu y=m∧∀z,inv z→Rel E G (st z) a w→m≤mu z) ⟨x,hx,ag⟩ ?_
    intro a w ⟨c7,wX,zdj⟩
    have hex: ∃m,∃y,inv y∧Rel E G (st y) a w∧mu y=m∧∀z,inv z→Rel E G (st z) a w→m≤mu z:=by
      have: ∀k y,mu y=k→inv y→Rel E G (st y) a w→∃m,∃y,inv y∧Rel E G (st y) a w∧mu y=m∧∀z,inv z→Rel E G (st z) a w→m≤mu z:=by
        intro k
        induction k using Nat.strongRecOn with
        |_ k aY=>
          intro y aj ax zP
          by_cases rC: ∀z,inv z→Rel E G (st z) a w→mu y≤mu z
          · exact⟨mu y,y,ax,zP,rfl,rC⟩
          · simp only[Classical.not_forall]at rC
            obtain⟨z,aS,j6,bH⟩:=rC;exact aY (mu z) (by omega) z rfl aS j6
      exact this _ c7 rfl wX zdj
    obtain⟨y,ax,zP,zdk,_⟩:=Classical.epsilon_spec hex;refine wp_mono (round y ax E a w zP) fun e bc w' aI=>?_
    obtain⟨bp,aa,ae⟩:=aI
    cases e with
    |normal=>
      obtain⟨z,aS,bH,hle⟩:=aa
      have j6:=hle E G bc w' ae
      refine⟨⟨z,aS,j6⟩,?_⟩
      have zdl: ∃m,∃y,inv y∧Rel E G (st y) bc w'∧mu y=m∧∀z,inv z→Rel E G (st z) bc w'→m≤mu z:=by
        have: ∀k y,mu y=k→inv y→Rel E G (st y) bc w'→∃m,∃y,inv y∧Rel E G (st y) bc w'∧mu y=m∧∀z,inv z→Rel E G (st z) bc w'→m≤mu z:=by
          intro k
          induction k using Nat.strongRecOn with
          |_ k aY=>
            intro y aj ax zP
            by_cases rC: ∀z,inv z→Rel E G (st z) bc w'→mu y≤mu z
            · exact⟨mu y,y,ax,zP,rfl,rC⟩
            · simp only[Classical.not_forall]at rC
              obtain⟨z,aS,j6,bH⟩:=rC;exact aY (mu z) (by omega) z rfl aS j6
        exact this _ z rfl aS j6
      obtain⟨_,_,_,_,rC⟩:=Classical.epsilon_spec zdl
      have au:=rC z aS j6
      rw[←zdk];exact Nat.lt_of_le_of_lt au bH
    |_=>exact⟨bp,aa,ae⟩
  exact key _ x rfl hi a w (aM E G a w ag)
end
def dG(P:Program)(G:a8)(f:FuncId)(args:List aD)(σ:Heap)(n:Nat)(Q:aD→Heap→Prop):Prop:=
 ∀w β ro (ed:Array Value),ed.size=args.length→(∀i x,args[i]? =some x→bs w ro σ β n x (ed.getD i undef))→hj w ro σ β n→sq w ro G→(∀id o,aE σ id=some o→id<n)→
  Calls P f ed w fun e w'=>∃v r eV dM ro' cJ,e= .returned v∧Q r eV∧bs w' ro' eV dM cJ r v∧hj w' ro' eV dM cJ∧Trans ⟨w,ro,σ,β,n⟩ w' ro' eV dM cJ
def m3(P:Program)(s:aP):List ResultVar→Option (List aD)
 |[]=>some []
 | .tmp t::r=>match m3 P s r with
  |some l=>some (s.cS.getD t .top::l)
  |none=>none
 | .cell p t::r=>match m3 P s r,fp s.heap (s.cS.getD p .top)with
  |some l,some cs=>match mi P t with
   |some n=>if n≤cs.length∧0<n then some (.agg (cs.take n)::l)else none
   |none=>if scalar P t then match cs with
    |y::_=>some (y::l)
    |[]=>none
    else none
  |_,_=>none
def zQ(P:Program)(fn:Func)(s:aP):Option aD:=
 match m3 P s fn.results.toList with
 |some [x]=>some x
 |some l=>some (.tuple l)
 |none=>none
def zdm(P:Program)(fn:Func)(Q:aD→Heap→Prop):Exit→aP→Prop:=fun e s=>
 (e= .normal∨e= .ret)∧∃r eV,zQ P fn s=some r∧(∀id o,aE eV id=some o→aE s.heap id=some o)∧Q r eV
theorem hj.sub{w:World}{ro:Nat→Prop}{σ eV:Heap}{β:Nat→Value}{N:Nat}(h:hj w ro σ β N)(ai: ∀id o,aE eV id=some o→aE σ id=some o):hj w ro eV β N:=by
 refine⟨fun id o ah=>(h.c6 id o (ai id o ah)).keep (fun _ _=>rfl) (fun _ h=>h) (Nat.le_refl _) (Nat.le_refl _) rfl (fun _ _ _=>rfl) (fun id t cs ah=>⟨rfl,t,cs,ai id _ ah⟩) (fun id z t n es ah=>⟨rfl,z,t,es,ai id _ ah⟩) (fun id bP ah=>⟨rfl,bP,ai id _ ah⟩),
  fun id gl o cA b aa ae=>h.inj id gl o cA b (ai id o aa) (ai gl cA ae),fun b ad ⟨id,o,ah,aq,bg⟩=>h.fh b ad ⟨id,o,ai id o ah,aq,bg⟩,h.lt⟩
theorem bs.sub{w:World}{ro:Nat→Prop}{σ eV:Heap}{β:Nat→Value}{N:Nat}{x:aD}{c:Value}(h:bs w ro σ β N x c)(ai: ∀id o,aE eV id=some o→aE σ id=some o):bs w ro eV β N x c:=
 h.keep (fun _ _=>rfl) (fun _ h=>h) (Nat.le_refl _) (fun id t cs ah=>⟨rfl,t,cs,ai id _ ah⟩) (fun id z t _ es ah=>⟨rfl,z,t,es,ai id _ ah⟩) (fun id bP ah=>⟨rfl,bP,ai id _ ah⟩)
theorem Trans.sub{E:Entry}{w:World}{ro:Nat→Prop}{σ eV:Heap}{β:Nat→Value}{n:Nat}(h:Trans E w ro σ β n)(ai: ∀id o,aE eV id=some o→aE σ id=some o):Trans E w ro eV β n:=
 ⟨h.os,h.tape,h.output,h.size,h.frame,h.jl,h.j2,fun b ⟨id,o,ah,aq,bg⟩=>h.hk b ⟨id,o,ai id o ah,aq,bg⟩,fun id hi o ah=>h.dL id hi o (ai id o ah),fun id o ah=>h.new id o (ai id o ah),h.le⟩
section
variable {P:Program} {G:a8}
def uT(tmps:Array Value):ResultVar→Sem Value
 | .tmp t=>pure (tmps.getD t undef)
 | .cell p t=>do
  let b ←asAddr (tmps.getD p undef)
  loadVar t b
theorem zdn(fn:Func)(tmps:Array Value):results fn tmps=(do
    let vs ←fn.results.mapM (uT tmps)
    pure (if h:vs.size=1 then vs[0]else .tuple vs)):=by
  unfold results
  have:(fun x=>match x with
      |ResultVar.tmp t=>(pure (tmps.getD t undef):Sem Value)
      |ResultVar.cell p t=>do
        let b ←asAddr (tmps.getD p undef)
        loadVar t b)=uT tmps:=by
    funext x
    cases x<;>rfl
  rw[←this];rfl
theorem Ka{E:Entry}{s:aP}{a:Act}{w:World}{β:Nat→Value}{ro:Nat→Prop}(h:c3 E G s a w β ro): ∀{rs:List ResultVar} {l:List aD},m3 P s rs=some l→
 ∃vs:List Value,(rs.mapM (uT a.tmps)).run P w= .ok vs w∧vs.length=l.length∧∀j x,l[j]? =some x→bs w ro s.heap β s.next x (vs.getD j undef)
 |[],l,aq=>by
  simp[m3]at aq;subst aq;exact⟨[],by simp,rfl,by simp⟩
 | .tmp t::r,l,aq=>by
  simp only[m3]at aq
  cases ag:m3 P s r with
  |none=>simp[ag]at aq
  |some h2=>
   simp only[ag,Option.some.injEq]at aq;subst aq;obtain⟨vs,aa,ae,au⟩:=Ka h ag;refine⟨a.tmps.getD t undef::vs,by simp only[List.mapM_cons,Sem.run_bind,uT,Sem.run_pure,Result.andThen_ok,aa],by simp[ae],fun j x af=>?_⟩
   cases j with
   |zero=>
    simp at af;subst af;exact h.eval (.tmp t)
   |succ j=>exact au j x af
 | .cell p t::r,l,aq=>by
  simp only[m3]at aq
  cases ag:m3 P s r with
  |none=>simp[ag]at aq
  |some h2=>
   cases hc:fp s.heap (s.cS.getD p .top)with
   |none=>rw[ag,hc]at aq;cases aq
   |some cs=>
    rw[ag,hc]at aq;simp only at aq;obtain⟨vs,aa,ae,au⟩:=Ka h ag
    have dT:=h.eval (.tmp p)
    simp only[aJ,Act.eval]at dT
    cases bR:mi P t with
    |some n=>
     simp only[bR]at aq
     split at aq
     ·rename_i hn
      simp only[Option.some.injEq]at aq;subst aq;obtain⟨cX,uU,f,hf⟩:=wT h.heap hc dT (by intro e;subst e;simp at hn;omega)
      obtain⟨g1,g2⟩:=Dj bR w
      have mn:=run_loadCells (P:=P) w cX n f (fun j af=>(hf j (cs[j]'(by omega)) (by simp)).1)
      refine⟨.agg ((List.range n).map f).toArray::vs,?_,by simp[ae],fun j x af=>?_⟩
      ·simp only[List.mapM_cons,Sem.run_bind,uT,uU,asAddr,Sem.run_pure,Result.andThen_ok,loadVar,g1,g2,if_true,mn,aa]
      ·cases j with
       |zero=>
        simp at af;subst af;refine .agg _ _ (by simp;omega) fun j y af=>?_
        rw[List.getElem?_take]at af
        split at af
        ·have:=(hf j y af).2
         rename_i mU;simpa[mU]using this
        ·cases af
       |succ j=>exact au j x af
     ·cases aq
    |none=>
     simp only[bR]at aq
     split at aq
     ·rename_i hsc
      cases cs with
      |nil=>simp at aq
      |cons y cs'=>
       simp only[Option.some.injEq]at aq;subst aq;obtain⟨cX,uU,f,hf⟩:=wT h.heap hc dT (by simp)
       have g1:=zE hsc w
       obtain⟨la,dB⟩:=hf 0 y rfl;rw[show cX.add 0=cX from by simp[Addr.add]]at la
       refine⟨f 0::vs,?_,by simp[ae],fun j x af=>?_⟩
       ·simp only[List.mapM_cons,Sem.run_bind,uT,uU,asAddr,Sem.run_pure,Result.andThen_ok,loadVar,g1]
        simp[run_load,la,aa]
       ·cases j with
        |zero=>simp at af;subst af;exact dB
        |succ j=>exact au j x af
     ·cases aq
theorem zdo{E:Entry}{s:aP}{a:Act}{w:World}{β:Nat→Value}{ro:Nat→Prop}(h:c3 E G s a w β ro){fn:Func}{r:aD}(ag:zQ P fn s=some r):
 ∃v,(results fn a.tmps).run P w= .ok v w∧bs w ro s.heap β s.next r v:=by
 unfold zQ at ag
 cases a1:m3 P s fn.results.toList with
 |none=>simp[a1]at ag
 |some l=>
  rw[a1]at ag;obtain⟨vs,aa,ae,au⟩:=Ka h a1
  have hm:(fn.results.mapM (uT a.tmps)).run P w= .ok vs.toArray w:=by
   rw[Array.mapM_eq_mapM_toList];simp only[Sem.run_map,aa]
   first|rfl|simp
  have rD:(results fn a.tmps).run P w= .ok (if h:vs.toArray.size=1 then vs.toArray[0]else .tuple vs.toArray) w:=by
   rw[zdn,Sem.run_bind,hm];rfl
  refine⟨_,rD,?_⟩
  match l,a1,ag,ae,au with
  |[x],_,ag,ae,au=>
   injection ag with ag
   subst ag
   have wc:vs.toArray.size=1:=by simpa using ae
   rw[dif_pos wc]
   have:=au 0 x rfl
   have Dr:0<vs.length:=by simp at wc;omega
   simpa[List.getD,Dr]using this
  |[],_,ag,ae,au=>
   injection ag with ag
   subst ag
   have:vs=[]:=List.eq_nil_of_length_eq_zero (by simpa using ae)
   subst this;exact .tuple _ _ rfl (by simp)
  |x::y::h2,_,ag,ae,au=>
   injection ag with ag
   subst ag;rw[dif_neg (by simp at ae⊢;omega)]
   refine .tuple _ _ (by simpa using ae) fun j z af=>?_
   have:=au j z af
   simpa[List.getD,Array.getD_eq_getD_getElem?]using this
theorem dG.Qn{f:FuncId}{fn:Func}{c:Code}{args:List aD}{σ:Heap}{n k:Nat}{Q:aD→Heap→Prop}(hf:P.funcs[f]? =some fn)(ad:fn.body=some c)(aj:fn.ntmps-args.length=k)
 (h:b2 P G c (zdm P fn Q) ⟨args++List.replicate k .top,σ,n,n⟩):dG P G f args σ n Q:=by
 intro w β ro ed bN h3 bb ah bH
 refine calls_of_wp hf ad (wp_mono (h ⟨w,ro,σ,β,n⟩ _ w ⟨β,ro,rfl,?_,?_,bb,ah,?_,Nat.le_refl _⟩) ?_)
 ·simp[bN,aj]
 ·intro i x hi
  simp only at hi
  by_cases Kb:i<args.length
  ·rw[List.getElem?_append_left Kb]at hi
   have:=h3 i x hi
   have aa:i<ed.size:=by omega
   simpa[Array.getElem?_append_left aa,aa,Array.getElem_append_left aa]using this
  ·rw[List.getElem?_append_right (by omega)]at hi
   rw[List.getElem?_replicate]at hi
   split at hi
   ·simp only[Option.some.injEq]at hi;subst hi;exact .top _
   ·cases hi
 ·exact⟨rfl,rfl,rfl,Nat.le_refl _,fun _ _ _=>rfl,fun _ h=>.inl h,fun _ h=>h,fun _ h=>.inl h,fun id _ o an=>⟨by rw[an];simp,rfl⟩,bH,Nat.le_refl _⟩
 ·intro e bc w' ⟨bp,aI,dM,ro',ag⟩
  obtain⟨he,r,eV,rD,gA,ew⟩:=aI;obtain⟨v,aw,dB⟩:=zdo ag rD
  rcases he with rfl|rfl
  ·exact⟨ag.defers,v,aw,v,r,eV,dM,ro',bp.next,rfl,ew,dB.sub gA,ag.heap.sub gA,ag.trans.sub gA⟩
  ·exact⟨ag.defers,v,aw,v,r,eV,dM,ro',bp.next,rfl,ew,dB.sub gA,ag.heap.sub gA,ag.trans.sub gA⟩
end
end Go.aL
namespace Go.aL
open Go
mutual
def gB(n:Nat):aD→Bool
 | .av _=>true
 | .agg cs=>lb n cs
 | .tuple cs=>lb n cs
 | .ptr id _=>decide (id<n)
 | .dA id _=>decide (id<n)
 | .cW id _ _=>decide (id<n)
 | .aO id=>decide (id<n)
 | .fn _ p q=>lb n p&&lb n q
 | .ref id=>decide (id<n)
 | .top=>true
def lb(n:Nat):List aD→Bool
 |[]=>true
 |x::r=>gB n x&&lb n r
end
theorem rE{n:Nat}: ∀{cs:List aD},lb n cs=true→∀{j:Nat} {x:aD},cs[j]? =some x→gB n x=true
 |[],_,j,x,h=>by simp at h
 |y::r,ad,j,x,h=>by
  simp only[lb,Bool.and_eq_true]at ad
  cases j with
  |zero=>simp at h;subst h;exact ad.1
  |succ j=>simp at h;exact rE ad.2 h
theorem bs.lower{w:World}{ro:Nat→Prop}{σ:Heap}{β:Nat→Value}{N oW:Nat}{x:aD}{c:Value}(h:bs w ro σ β N x c)(ad:gB oW x=true):bs w ro σ β oW x c:=by
 induction h with
 |av x c hx=>exact .av x c hx
 |agg cs c ai _ aY=>
  simp only[gB]at ad;exact .agg cs c ai fun j x af=>aY j x af (rE ad af)
 |tuple cs c ai _ aY=>
  simp only[gB]at ad;exact .tuple cs c ai fun j x af=>aY j x af (rE ad af)
 |ptr id off c aq ak=>exact .ptr id off c (by simpa[gB]using ad) ak
 |dA id off c aq ak=>exact .dA id off c (by simpa[gB]using ad) ak
 |cW id i off c aq ak=>exact .cW id i off c (by simpa[gB]using ad) ak
 |aO id c aq ak=>exact .aO id c (by simpa[gB]using ad) ak
 |fn f p q c d aa ae _ _ hl ho=>
  simp only[gB,Bool.and_eq_true]at ad;exact .fn f p q c d aa ae (fun j x af=>hl j x af (rE ad.1 af)) (fun j x af=>ho j x af (rE ad.2 af))
 |ref id c aq ak=>exact .ref id c (by simpa[gB]using ad) ak
 |top c=>exact .top c
def wY(σ:Heap):List Nat→Heap
 |[]=>[]
 |id::r=>match aE σ id with
  |some o=>(id,o)::wY σ r
  |none=>wY σ r
theorem Kc(σ:Heap): ∀(ids:List Nat) (id:Nat) (o:ek),aE (wY σ ids) id=some o→aE σ id=some o
 |[],id,o,h=>by simp[wY,aE]at h
 |k::r,id,o,h=>by
  simp only[wY]at h
  cases aj:aE σ k with
  |none=>rw[aj]at h;exact Kc σ r id o h
  |some p=>
   rw[aj]at h;simp only[aE]at h
   split at h
   ·rename_i he
    subst he;rw[aj];exact h
   ·exact Kc σ r id o h
def ld(n:Nat):Heap→Bool
 |[]=>true
 |(id,.box _ cs)::r=>decide (id<n)&&lb n cs&&ld n r
 |(id,.row _ _ _ _)::r=>decide (id<n)&&ld n r
 |(id,.bM _)::r=>decide (id<n)&&ld n r
theorem rF{n:Nat}: ∀{σ:Heap},ld n σ=true→∀{id:Nat} {o:ek},aE σ id=some o→id<n∧∀t cs,o= .box t cs→lb n cs=true
 |[],_,id,o,h=>by simp[aE]at h
 |(k,.box t cs)::r,ad,id,o,h=>by
  simp only[ld,Bool.and_eq_true,decide_eq_true_eq]at ad;simp only[aE]at h
  split at h
  ·rename_i he
   subst he;simp only[Option.some.injEq]at h;subst h;exact⟨ad.1.1,fun bD cs' he=>by cases he;exact ad.1.2⟩
  ·exact rF ad.2 h
 |(k,.row z t m es)::r,ad,id,o,h=>by
  simp only[ld,Bool.and_eq_true,decide_eq_true_eq]at ad;simp only[aE]at h
  split at h
  ·rename_i he
   subst he;simp only[Option.some.injEq]at h;subst h;exact⟨ad.1,fun bD cs' he=>by cases he⟩
  ·exact rF ad.2 h
 |(k,.bM bP)::r,ad,id,o,h=>by
  simp only[ld,Bool.and_eq_true,decide_eq_true_eq]at ad;simp only[aE]at h
  split at h
  ·rename_i he
   subst he;simp only[Option.some.injEq]at h;subst h;exact⟨ad.1,fun bD cs' he=>by cases he⟩
  ·exact rF ad.2 h
mutual
def hO(σ:Heap):aD→aD
 | .aO id=>match aE σ id with
  |some (.row true _ n es)=>.av (.aO n es)
  |_=>.aO id
 | .agg cs=>.agg (kG σ cs)
 | .tuple cs=>.tuple (kG σ cs)
 | .fn f p q=>.fn f (kG σ p) (kG σ q)
 | .av x=>.av x
 | .ptr id off=>.ptr id off
 | .dA id off=>.dA id off
 | .cW id i off=>.cW id i off
 | .ref id=>.ref id
 | .top=>.top
def kG(σ:Heap):List aD→List aD
 |[]=>[]
 |x::r=>hO σ x::kG σ r
end
theorem nV(σ:Heap): ∀(l:List aD),(kG σ l).length=l.length
 |[]=>rfl
 |x::r=>by simp[kG,nV σ r]
theorem o4(σ:Heap): ∀{l:List aD} {j:Nat} {x:aD},(kG σ l)[j]? =some x→∃y,l[j]? =some y∧x=hO σ y
 |[],j,x,h=>by simp[kG]at h
 |y::r,j,x,h=>by
  cases j with
  |zero=>simp[kG]at h;exact⟨y,by simp,h.symm⟩
  |succ j=>simp[kG]at h;simpa using o4 σ h
theorem zdp{w:World}{ro:Nat→Prop}{σ:Heap}{β:Nat→Value}{N:Nat}(bb:hj w ro σ β N){x:aD}{c:Value}(h:bs w ro σ β N x c):bs w ro σ β N (hO σ x) c:=by
 induction h with
 |aO id c aq ak=>
  simp only[hO]
  split
  ·rename_i t n es ah
   rw[ak true t n es ah]
   have:=bb.c6 id _ ah
   cases this with
   |gb _ _ _ aa=>exact .av _ _ aa
  ·exact .aO id c aq ak
 |av x c h=>exact .av x c h
 |agg cs c aa _ aY=>
  refine .agg _ c (by rw[nV];exact aa) fun j x af=>?_
  obtain⟨y,ax,rfl⟩:=o4 σ af;exact aY j y ax
 |tuple cs c aa _ aY=>
  refine .tuple _ c (by rw[nV];exact aa) fun j x af=>?_
  obtain⟨y,ax,rfl⟩:=o4 σ af;exact aY j y ax
 |ptr id off c aa ae=>exact .ptr id off c aa ae
 |dA id off c aa ae=>exact .dA id off c aa ae
 |cW id i off c aa ae=>exact .cW id i off c aa ae
 |fn f p q c d aa ae _ _ hl ho=>
  refine .fn f _ _ c d (by rw[nV];exact aa) (by rw[nV];exact ae) (fun j x af=>?_) (fun j x af=>?_)
  ·obtain⟨y,ax,rfl⟩:=o4 σ af
   exact hl j y ax
  ·obtain⟨y,ax,rfl⟩:=o4 σ af
   exact ho j y ax
 |ref id c aa ae=>exact .ref id c aa ae
 |top c=>exact .top c
mutual
def fF:aD→Bool
 | .av _=>true
 | .agg cs=>e4 cs
 | .tuple cs=>e4 cs
 | .fn _ p q=>e4 p&&e4 q
 | .top=>true
 | .ptr _ _=>false
 | .dA _ _=>false
 | .cW _ _ _=>false
 | .aO _=>false
 | .ref _=>false
def e4:List aD→Bool
 |[]=>true
 |x::r=>fF x&&e4 r
end
theorem m4: ∀{cs:List aD},e4 cs=true→∀{j:Nat} {x:aD},cs[j]? =some x→fF x=true
 |[],_,j,x,h=>by simp at h
 |y::r,ad,j,x,h=>by
  simp only[e4,Bool.and_eq_true]at ad
  cases j with
  |zero=>simp at h;subst h;exact ad.1
  |succ j=>simp at h;exact m4 ad.2 h
theorem Ds(l:List a6):e4 (l.map .av)=true:=by
 induction l with
 |nil=>rfl
 |cons x r aY=>simp[e4,fF,aY]
theorem nW{w:World}{ro:Nat→Prop}{σ bV:Heap}{β zR:Nat→Value}{N M:Nat}{x:aD}{c:Value}(h:bs w ro σ β N x c)(ak:fF x=true):bs w ro bV zR M x c:=by
 induction h with
 |av x c h=>exact .av x c h
 |agg cs c aa _ aY=>
  simp only[fF]at ak;exact .agg cs c aa fun j x af=>aY j x af (m4 ak af)
 |tuple cs c aa _ aY=>
  simp only[fF]at ak;exact .tuple cs c aa fun j x af=>aY j x af (m4 ak af)
 |fn f p q c d aa ae _ _ hl ho=>
  simp only[fF,Bool.and_eq_true]at ak;exact .fn f p q c d aa ae (fun j x af=>hl j x af (m4 ak.1 af)) (fun j x af=>ho j x af (m4 ak.2 af))
 |top c=>exact .top c
 |ptr=>simp[fF]at ak
 |dA=>simp[fF]at ak
 |cW=>simp[fF]at ak
 |aO=>simp[fF]at ak
 |ref=>simp[fF]at ak
mutual
def qo(d:Nat):aD→aD
 | .av x=>.av x
 | .agg cs=>.agg (lK d cs)
 | .tuple cs=>.tuple (lK d cs)
 | .ptr id off=>.ptr (d+id) off
 | .dA id off=>.dA (d+id) off
 | .cW id i off=>.cW (d+id) i off
 | .aO id=>.aO (d+id)
 | .fn f p q=>.fn f (lK d p) (lK d q)
 | .ref id=>.ref (d+id)
 | .top=>.top
def lK(d:Nat):List aD→List aD
 |[]=>[]
 |x::r=>qo d x::lK d r
end
def lf(d:Nat):Heap→Heap
 |[]=>[]
 |(id,.box t cs)::r=>(d+id,.box t (lK d cs))::lf d r
 |(id,.row z t n es)::r=>(d+id,.row z t n es)::lf d r
 |(id,.bM bP)::r=>(d+id,.bM bP)::lf d r
def kH(d:Nat):ek→ek
 | .box t cs=>.box t (lK d cs)
 | .row z t n es=>.row z t n es
 | .bM bP=>.bM bP
theorem wZ(d:Nat): ∀(l:List aD),(lK d l).length=l.length
 |[]=>rfl
 |x::r=>by simp[lK,wZ d r]
theorem w0(d:Nat): ∀{l:List aD} {j:Nat} {x:aD},(lK d l)[j]? =some x→∃y,l[j]? =some y∧x=qo d y
 |[],j,x,h=>by simp[lK]at h
 |y::r,j,x,h=>by
  cases j with
  |zero=>simp[lK]at h;exact⟨y,by simp,h.symm⟩
  |succ j=>simp[lK]at h;simpa using w0 d h
theorem Ry(σ bV:Heap)(id:Nat):aE (σ++bV) id=(aE σ id).or (aE bV id):=by
 induction σ with
 |nil=>simp[aE]
 |cons p r aY=>
  obtain⟨k,o⟩:=p;simp only[List.cons_append,aE]
  split
  ·simp
  ·exact aY
theorem zS(d:Nat): ∀(σ:Heap) (id:Nat),aE (lf d σ) id=if d≤id then(aE σ (id-d)).map (kH d)else none
 |[],id=>by simp[lf,aE]
 |(k,.box t cs)::r,id=>by
  simp only[lf,aE,zS d r]
  by_cases aa:d+k=id
  ·have ae:d≤id:=by omega
   have au:k=id-d:=by omega
   simp[ae,au,kH]
  ·by_cases ae:d≤id
   ·have au: ¬k=id-d:=by omega
    simp[aa,ae,au]
   ·simp[aa,ae]
 |(k,.row z t n es)::r,id=>by
  simp only[lf,aE,zS d r]
  by_cases aa:d+k=id
  ·have ae:d≤id:=by omega
   have au:k=id-d:=by omega
   simp[ae,au,kH]
  ·by_cases ae:d≤id
   ·have au: ¬k=id-d:=by omega
    simp[aa,ae,au]
   ·simp[aa,ae]
 |(k,.bM bP)::r,id=>by
  simp only[lf,aE,zS d r]
  by_cases aa:d+k=id
  ·have ae:d≤id:=by omega
   have au:k=id-d:=by omega
   simp[ae,au,kH]
  ·by_cases ae:d≤id
   ·have au: ¬k=id-d:=by omega
    simp[aa,ae,au]
   ·simp[aa,ae]
theorem bs.shift{w:World}{ro ro':Nat→Prop}{σ bV:Heap}{β zR:Nat→Value}{N M:Nat}{x:aD}{c:Value}(h:bs w ro σ β N x c)(cc: ∀b,ro b→ro' b)
 (Kd: ∀id o,aE bV id=some o→id<M):
 bs w ro' (lf M σ++bV) (fun k=>if M≤k then β (k-M)else zR k) (M+N) (qo M x) c:=by
 have key: ∀id,aE (lf M σ++bV) (M+id)=(aE σ id).map (kH M):=by
  intro id;rw[Ry,zS]
  have aa:M≤M+id:=by omega
  simp only[aa,if_true,Nat.add_sub_cancel_left]
  cases ai:aE σ id with
  |some o=>simp
  |none=>
   simp
   cases aH:aE bV (M+id)with
   |none=>rfl
   |some o=>have:=Kd _ _ aH;omega
 induction h with
 |av x c hx=>exact .av x c (hx.keep (fun _ _=>rfl) cc)
 |agg cs c ai _ aY=>
  refine .agg _ c (by rw[wZ];exact ai) fun j x af=>?_
  obtain⟨y,ax,rfl⟩:=w0 M af;exact aY j y ax
 |tuple cs c ai _ aY=>
  refine .tuple _ c (by rw[wZ];exact ai) fun j x af=>?_
  obtain⟨y,ax,rfl⟩:=w0 M af;exact aY j y ax
 |ptr id off c aq ak=>
  refine .ptr _ off c (by omega) fun t cs ah=>?_
  rw[key]at ah;simp only[Nat.le_add_right,if_true,Nat.add_sub_cancel_left]
  cases ai:aE σ id with
  |none=>simp[ai]at ah
  |some o=>
   cases o with
   |box bD cs'=>exact ak bD cs' ai
   |row=>simp[ai,kH]at ah
   |bM=>simp[ai,kH]at ah
 |dA id off c aq ak=>
  refine .dA _ off c (by omega) fun t cs ah=>?_
  rw[key]at ah;simp only[Nat.le_add_right,if_true,Nat.add_sub_cancel_left]
  cases ai:aE σ id with
  |none=>simp[ai]at ah
  |some o=>
   cases o with
   |box bD cs'=>exact ak bD cs' ai
   |row=>simp[ai,kH]at ah
   |bM=>simp[ai,kH]at ah
 |cW id i off c aq ak=>
  refine .cW _ i off c (by omega) fun z t n es ah=>?_
  rw[key]at ah;simp only[Nat.le_add_right,if_true,Nat.add_sub_cancel_left]
  cases ai:aE σ id with
  |none=>simp[ai]at ah
  |some o=>
   cases o with
   |box bD cs'=>simp[ai,kH]at ah
   |bM=>simp[ai,kH]at ah
   |row iw bD cJ dQ=>
    simp only[ai,Option.map_some,kH,Option.some.injEq,ek.row.injEq]at ah;obtain⟨rfl,rfl,rfl,rfl⟩:=ah;exact ak _ _ _ _ ai
 |aO id c aq ak=>
  refine .aO _ c (by omega) fun z t n es ah=>?_
  rw[key]at ah;simp only[Nat.le_add_right,if_true,Nat.add_sub_cancel_left]
  cases ai:aE σ id with
  |none=>simp[ai]at ah
  |some o=>
   cases o with
   |box bD cs'=>simp[ai,kH]at ah
   |bM=>simp[ai,kH]at ah
   |row iw bD cJ dQ=>exact ak _ _ _ _ ai
 |fn f p q c d aa ae _ _ hl ho=>
  refine .fn f _ _ c d (by rw[wZ];exact aa) (by rw[wZ];exact ae) (fun j x af=>?_) (fun j x af=>?_)
  ·obtain⟨y,ax,rfl⟩:=w0 M af
   exact hl j y ax
  ·obtain⟨y,ax,rfl⟩:=w0 M af
   exact ho j y ax
 |ref id c aq ak=>
  refine .ref _ c (by omega) fun bP ah=>?_
  rw[key]at ah;simp only[Nat.le_add_right,if_true,Nat.add_sub_cancel_left]
  cases ai:aE σ id with
  |none=>simp[ai]at ah
  |some o=>
   cases o with
   |box=>simp[ai,kH]at ah
   |row=>simp[ai,kH]at ah
   |bM lI=>exact ak lI ai
 |top c=>exact .top c
def m5(P:Program)(f:FuncId):Bool:=
 match P.funcs[f]? with
 |some fn=>!(fn.name== "runtime.NumGoroutine")&&fn.body.isSome
 |none=>false
theorem Dt{P:Program}{f:FuncId}(h:m5 P f=true)(args:Array Value)(w:World):(callFunc f args).run P w= .ok (.enter f args) w:=by
 unfold m5 at h
 split at h
 ·rename_i fn hf
  simp only[Bool.and_eq_true,Bool.not_eq_true']at h
  have ae:fn.body≠none:=by intro e;simp[e]at h
  have au:fn.name≠ "runtime.NumGoroutine" :=by simpa using h.1
  simp[callFunc,hf,ae,au]
 ·cases h
section
variable {P:Program} {G:a8} {s:aP} {Q:Exit→aP→Prop}
theorem mg.call{o:Oper}{x:Operand}{xs:Array Operand}{ts:Array TypeId}(an:o.op= .call {callee:=.value x,args:=xs,argTypes:=ts}){f:FuncId}(hx:aJ G s x= .fn (.func f) [] [])
 (gC:m5 P f=true){args:List aD}(h3:xs.toList.map (fun y=>hO s.heap (aJ G s y))=args)(o5:e4 args=true){R:aD→Heap→Prop}(hc:dG P G f args [] 0 R){K:Nat}{r:aD}{bV:Heap}
 (fQ: ∀eQ fG,R eQ fG→eQ=r∧fG=bV)(Ke:gB K r=true)(Du:ld K bV=true)(ad:s.base≤s.next):
 mg P G o s ({s with heap:=lf s.next bV++s.heap,next:=s.next+K}.put o.dst (qo s.next r)):=by
 intro E a w ⟨β,ro,h⟩ zdq zdr Kf
 have lL:=h.eval x
 rw[hx]at lL
 generalize he:a.eval x=Kg at lL
 cases lL with
 |fn _ _ _ c d aa ae _ _=>
  have hD:c= #[]:=by simpa using aa
  have ox:d= #[]:=by simpa using ae
  subst hD ox;unfold Oper.wp;simp only[execOp,an,resolve,he,Deferred.ofValue,Sem.run_bind,Sem.run_pure,Result.andThen_ok,invoke,Array.empty_append,Array.append_empty];rw[Dt gC]
  have hlen:xs.toList.length=args.length:=by have:=congrArg List.length h3;simpa using this
  have hp:=hc w β ro (xs.map a.eval) (by simpa using hlen) (fun i y ax=>by
   have hi:(xs.toList.map (fun y=>hO s.heap (aJ G s y)))[i]? =some y:=by rw[h3];exact ax
   rw[List.getElem?_map]at hi
   cases Kh:xs.toList[i]? with
   |none=>simp[Kh]at hi
   |some z=>
    simp[Kh]at hi
    have aw:=zdp h.heap (h.eval z)
    rw[hi]at aw
    have zds:xs[i]? =some z:=by simpa using Kh
    have dT:(xs.map a.eval).getD i undef=a.eval z:=by simp[zds]
    rw[dT]
    exact nW aw (m4 o5 ax)) ⟨by simp[aE],by simp[aE],fun b _ ⟨_,_,ah,_⟩=>by simp[aE]at ah,h.heap.lt⟩ h.ic (by simp[aE])
  refine Calls.mono hp fun e w' aI=>?_
  obtain⟨v,eQ,fG,dM,ro',cJ,rfl,zdt,dB,hP,cE⟩:=aI;obtain⟨rfl,rfl⟩:=fQ eQ fG zdt
  have lg: ∀b,¬Own ([]:Heap) β b:=fun b ⟨_,_,ah,_⟩=>by simp[aE]at ah
  have lM: ∀b,b<w.heap.size→w'.heap[b]? =w.heap[b]? :=fun b ad=>cE.frame b ad (lg b)
  have rG:=dB.lower Ke
  have fe:=h.heap
  have Ki:=fun id o ah=>h.trans.new id o ah
  have cc: ∀b,ro b→w'.heap[b]? =w.heap[b]? :=fun b ad=>lM b (h.heap.lt b ad)
  have nT: ∀k p b,aE s.heap k=some p→p.live=true→b3 (β k)=some b→b<w.heap.size:=fun k p b aj ak bg=>(h.heap.c6 k p aj).hL ak bg
  have Dv: ∀k p b,aE fG k=some p→p.live=true→b3 (dM k)=some b→w.heap.size≤b:=by
   intro k p b aj ak bg
   rcases cE.hk b ⟨k,p,aj,ak,bg⟩with hc|hc
   ·exact absurd hc (lg b)
   ·exact hc

  have look: ∀id,aE (lf s.next fG++s.heap) id=if s.next≤id then(aE fG (id-s.next)).map (kH s.next)else aE s.heap id:=by
   intro id;rw[Ry,zS]
   by_cases hi:s.next≤id
   ·simp only[hi,if_true]
    cases ai:aE fG (id-s.next)with
    |some p=>simp
    |none=>
     simp
     cases aH:aE s.heap id with
     |none=>rfl
     |some p=>have:=Ki _ _ aH;omega
   ·simp[hi]
  have up: ∀x c,bs w ro s.heap β s.next x c→bs w' (fun b=>ro b∨ro' b) (lf s.next fG++s.heap) (fun k=>if s.next≤k then dM (k-s.next)else β k) (s.next+K) x c:=by
   intro x c hx
   induction hx with
   |av x c hx=>exact .av x c (hx.keep cc fun _ h=>.inl h)
   |agg cs c ai _ aY=>exact .agg cs c ai aY
   |tuple cs c ai _ aY=>exact .tuple cs c ai aY
   |ptr k off c aq ak=>
    have aj: ¬s.next≤k:=by omega
    exact .ptr k off c (by omega) fun t cs bn=>by rw[look,if_neg aj]at bn;simp only[aj,if_false];exact ak t cs bn
   |dA k off c aq ak=>
    have aj: ¬s.next≤k:=by omega
    exact .dA k off c (by omega) fun t cs bn=>by rw[look,if_neg aj]at bn;simp only[aj,if_false];exact ak t cs bn
   |cW k i off c aq ak=>
    have aj: ¬s.next≤k:=by omega
    exact .cW k i off c (by omega) fun z t n es bn=>by rw[look,if_neg aj]at bn;simp only[aj,if_false];exact ak z t n es bn
   |aO k c aq ak=>
    have aj: ¬s.next≤k:=by omega
    exact .aO k c (by omega) fun z t n es bn=>by rw[look,if_neg aj]at bn;simp only[aj,if_false];exact ak z t n es bn
   |fn f p q c d aa ae _ _ hl ho=>exact .fn f p q c d aa ae hl ho
   |ref k c aq ak=>
    have aj: ¬s.next≤k:=by omega
    exact .ref k c (by omega) fun bP bn=>by rw[look,if_neg aj]at bn;simp only[aj,if_false];exact ak bP bn
   |top c=>exact .top c
  have Rz: ∀b,ro' b→ro b∨w.heap.size≤b:=fun b ad=>by
   rcases cE.jl b ad with h|h|h
   ·exact .inl h
   ·exact absurd h (lg b)
   ·exact .inr h
  refine Kf _ _ ⟨fun k=>if s.next≤k then dM (k-s.next)else β k,fun b=>ro b∨ro' b,c3.put (s:={s with heap:=lf s.next fG++s.heap,next:=s.next+K}) ⟨h.defers,h.size,fun i x hx=>up _ _ (h.slot i x hx),⟨fun id p ah=>?_,?_,?_,?_⟩,?_,?_,h.base⟩ o.dst _ _ ?_⟩ lM
  ·simp only[look]at ah
   by_cases hi:s.next≤id
   ·simp only[hi,if_true]at ah
    cases ai:aE fG (id-s.next)with
    |none=>simp[ai]at ah
    |some q=>
     simp[ai]at ah;subst ah;obtain⟨_,zT⟩:=rF Du ai
     have gK:=hP.c6 _ q ai
     cases gK with
     |box t cs b arr aB bf ck ep=>
      refine .box t _ b arr (by simp[hi,aB]) bf (by rw[wZ];exact ck) fun j x af=>?_
      obtain⟨y,ax,rfl⟩:=w0 s.next af;exact bs.shift ((ep j y ax).lower (rE (zT t cs rfl) ax)) (fun _ h=>.inr h) Ki
     |row t n es xs aB bf ck=>exact .row t n es xs (by simp only[hi,if_true];exact aB) bf fun j x af=>(ck j x af).keep (fun _ _=>rfl) fun _ h=>.inr h
     |gb t n es aB=>exact .gb t n es (by simp only[hi,if_true];exact aB.keep (fun _ _=>rfl) fun _ h=>.inr h)
     |bM bP b o aB bf ck=>exact .bM bP b o (by simp only[hi,if_true];exact aB) bf (by simp only[hi,if_true];exact bP.mono _ _ _ _ (fun x c h=>h.keep (fun _ _=>rfl) fun _ h=>.inr h) ck)
   ·simp only[hi,if_false]at ah
    have gK:=h.heap.c6 id p ah
    cases gK with
    |box t cs b arr aB bf ck ep=>
     have hM:=nT id _ b ah rfl (by rw[aB];rfl)
     exact .box t cs b arr (by simp only[hi,if_false];exact aB) ((lM b hM).trans bf) ck fun j x af=>up _ _ (ep j x af)
    |row t n es xs aB bf ck=>
     exact .row t n es xs (by simp only[hi,if_false];exact aB.keep (fun b ad=>lM b (aB.hL ad).1) cE.size) bf fun j x af=>(ck j x af).keep cc fun _ h=>.inl h
    |gb t n es aB=>exact .gb t n es (by simp only[hi,if_false];exact aB.keep cc fun _ h=>.inl h)
    |bM bP b o aB bf ck=>exact .bM bP b o (by simp only[hi,if_false];exact aB) ((lM b (Array.getElem?_eq_some_iff.1 bf).1).trans bf) (by simp only[hi,if_false];exact bP.mono _ _ _ _ (fun x c h=>h.keep cc fun _ h=>.inl h) ck)
  ·intro id gl p fX b ah dW ak gJ bg eu
   rw[look]at ah dW
   by_cases hi:s.next≤id
   ·simp only[hi,if_true]at ah bg
    cases ai:aE fG (id-s.next)with
    |none=>simp[ai]at ah
    |some q=>
     have rv:q.live=true:=by simp[ai]at ah;subst ah;cases q<;>first|rfl|exact ak
     have hX:=Dv _ q b ai rv bg
     by_cases hq:s.next≤gl
     ·simp only[hq,if_true]at dW eu
      cases eX:aE fG (gl-s.next)with
      |none=>simp[eX]at dW
      |some q'=>
       have zI:q'.live=true:=by simp[eX]at dW;subst dW;cases q'<;>first|rfl|exact gJ
       have:=hP.inj _ _ q q' b ai eX rv zI bg eu
       omega
     ·simp only[hq,if_false]at dW eu
      have:=nT gl fX b dW gJ eu
      omega
   ·simp only[hi,if_false]at ah bg
    have Kj:=nT id p b ah ak bg
    by_cases hq:s.next≤gl
    ·simp only[hq,if_true]at dW eu
     cases eX:aE fG (gl-s.next)with
     |none=>simp[eX]at dW
     |some q'=>
      have zI:q'.live=true:=by simp[eX]at dW;subst dW;cases q'<;>first|rfl|exact gJ
      have hX:=Dv _ q' b eX zI eu
      omega
    ·simp only[hq,if_false]at dW eu
     exact h.heap.inj id gl p fX b ah dW ak gJ bg eu
  ·rintro b ad ⟨id,p,ah,ak,bg⟩
   rw[look]at ah
   by_cases hi:s.next≤id
   ·simp only[hi,if_true]at ah bg
    cases ai:aE fG (id-s.next)with
    |none=>simp[ai]at ah
    |some q=>
     have rv:q.live=true:=by simp[ai]at ah;subst ah;cases q<;>first|rfl|exact ak
     have hX:=Dv _ q b ai rv bg
     rcases ad with ad|ad
     ·have:=h.heap.lt b ad;omega
     ·exact hP.fh b ad ⟨_,q,ai,rv,bg⟩
   ·simp only[hi,if_false]at ah bg
    have Kj:=nT id p b ah ak bg
    rcases ad with ad|ad
    ·exact h.heap.fh b ad ⟨id,p,ah,ak,bg⟩
    ·rcases Rz b ad with hc|hc
     ·exact h.heap.fh b hc ⟨id,p,ah,ak,bg⟩
     ·omega
  ·intro b ad
   rcases ad with ad|ad
   ·exact Nat.lt_of_lt_of_le (h.heap.lt b ad) cE.size
   ·exact hP.lt b ad
  ·exact h.ic.keep cc fun _ h=>.inl h
  ·have t:=h.trans
   refine⟨cE.os.trans t.os,cE.tape.trans t.tape,cE.output.trans t.output,Nat.le_trans t.size cE.size,fun b hM gf=>(lM b (Nat.lt_of_lt_of_le hM t.size)).trans (t.frame b hM gf),?_,fun b ad=>.inl (t.j2 b ad),?_,?_,?_,?_⟩
   ·intro b ad
    rcases ad with ad|ad
    ·exact t.jl b ad
    ·rcases Rz b ad with hc|hc
     ·exact t.jl b hc
     ·exact .inr (.inr (Nat.le_trans t.size hc))
   ·rintro b ⟨id,p,ah,ak,bg⟩
    rw[look]at ah
    by_cases hi:s.next≤id
    ·simp only[hi,if_true]at ah bg
     cases ai:aE fG (id-s.next)with
     |none=>simp[ai]at ah
     |some q=>
      have rv:q.live=true:=by simp[ai]at ah;subst ah;cases q<;>first|rfl|exact ak
      exact .inr (Nat.le_trans t.size (Dv _ q b ai rv bg))
    ·simp only[hi,if_false]at ah bg
     exact t.hk b ⟨id,p,ah,ak,bg⟩
   ·intro id bd p ah
    have aa:=h.base
    have hi: ¬s.next≤id:=by omega
    rw[look,if_neg hi]at ah;simp only[hi,if_false];exact t.dL id bd p ah
   ·intro id p ah
    simp only[look]at ah
    by_cases hi:s.next≤id
    ·simp only[hi,if_true]at ah
     cases ai:aE fG (id-s.next)with
     |none=>simp[ai]at ah
     |some q=>
      have:=(rF Du ai).1
      show id<s.next+K;omega
    ·show id<s.next+K
     omega
   ·have:=h.base
    show E.n≤s.next+K;omega
  ·exact bs.shift rG (fun _ h=>.inr h) Ki
theorem dR.call{o:Oper}{x:Operand}{xs:Array Operand}{ts:Array TypeId}(an:o.op= .call {callee:=.value x,args:=xs,argTypes:=ts}){f:FuncId}(hx:aJ G s x= .fn (.func f) [] [])
 (gC:m5 P f=true){args:List aD}(h3:xs.toList.map (fun y=>hO s.heap (aJ G s y))=args)(o5:e4 args=true){R:aD→Heap→Prop}(hc:dG P G f args [] 0 R){K:Nat}{r:aD}{bV:Heap}
 (fQ: ∀eQ fG,R eQ fG→eQ=r∧fG=bV)(Ke:gB K r=true)(Du:ld K bV=true)(ad:s.base≤s.next):
 dR P G o s ({s with heap:=lf s.next bV++s.heap,next:=s.next+K}.put o.dst (qo s.next r)):=(mg.call an hx gC h3 o5 hc fQ Ke Du ad).op
end
end Go.aL
namespace Go.aL
open Go
section
variable {P:Program} {G:a8} {o:Oper} {s:aP}
theorem cR.RA{w:World}{ro:Nat→Prop}{n:Nat}{es:List (List a6)}{c:Value}(h:cR w ro (.aO n es) c): ∃b cap,c= .slice b es.length cap:=by
 cases h with
 |aO _ _ b cap=>exact⟨b,cap,rfl⟩
def lh(σ:Heap):aD→Option Nat
 | .av (.aO _ es)=>some es.length
 | .av (.v (.slice none 0 0))=>some 0
 | .aO id=>match aE σ id with
  |some (.row _ _ _ es)=>some es.length
  |_=>none
 |_=>none
theorem zdu{w:World}{ro:Nat→Prop}{σ:Heap}{β:Nat→Value}{N:Nat}(bb:hj w ro σ β N){x:aD}{c:Value}(h:bs w ro σ β N x c){m:Nat}(hm:lh σ x=some m): ∃b cap,c= .slice b m cap:=by
 cases h with
 |av x c hx=>
  cases hx with
  |v _ aa=>
   cases c with
   |slice a l h1=>
    cases a with
    |none=>
     cases l with
     |zero=>
      cases h1 with
      |zero=>simp[lh]at hm;subst hm;exact⟨_,_,rfl⟩
      |succ=>simp[lh]at hm
     |succ=>simp[lh]at hm
    |some=>simp[lh]at hm
   |_=>simp[lh]at hm
  |ptr=>simp[lh]at hm
  |mp=>simp[lh]at hm
  |et=>simp[lh]at hm
  |li=>simp[lh]at hm
  |aO n es b cap c aa ae au aQ bF=>
   simp only[lh,Option.some.injEq]at hm;subst hm;exact⟨b,cap,rfl⟩
 |aO id c aq ak=>
  simp only[lh]at hm
  split at hm
  ·rename_i z t n es ah
   simp only[Option.some.injEq]at hm;subst hm;rw[ak z t n es ah]
   have:=bb.c6 id _ ah
   cases this with
   |row _ _ _ xs aa=>
    rcases aa.2 with⟨⟨_,aw,_⟩,aS⟩|⟨g,cap,cur,aw,_⟩
    ·rw[aw,aS];exact⟨_,_,rfl⟩
    ·rw[aw];exact⟨_,_,rfl⟩
   |gb _ _ _ aa=>exact aa.RA
  ·cases hm
 |_=>simp[lh]at hm
def isSlice(P:Program)(t:TypeId):Bool:=
 match P.underlying t with
 |some (.slice _)=>true
 |_=>false
theorem Kk(x:Operand)(t:TypeId)(an:o.op= .call {callee:=.builtin .len,args:=#[x],argTypes:=#[t]})(aH:isSlice P t=true){m:Nat}(hm:lh s.heap (aJ G s x)=some m):
 cQ P G o s (.av (.v (.int .i64 (m:Int)))):=
 fun _ a w β ro ag=>by
  obtain⟨b,cap,hc⟩:=zdu ag.heap (ag.eval x) hm;unfold isSlice at aH
  split at aH
  ·rename_i e hu
   refine⟨.int .i64 m,?_,.fE rfl⟩
   simp[execOp,an,resolve,invoke,builtin,hc,Builtin.len_,run_underlying hu,goInt]
  ·cases aH
theorem Kl(x:Operand)(t:TypeId)(an:o.op= .call {callee:=.builtin .len,args:=#[x],argTypes:=#[t]})(aH:P.underlying t=some .string){b:ByteArray}(hx:aJ G s x= .av (.v (.string b))):
 cQ P G o s (.av (.v (.int .i64 (b.size:Int)))):=
 fun _ a w β ro ag=>by
  refine⟨.int .i64 b.size,?_,.fE rfl⟩
  simp[execOp,an,resolve,invoke,builtin,ag.ef hx,Builtin.len_,run_underlying aH,goInt]
def Dw(P:Program)(t:TypeId):Option Nat:=
 match P.underlying t with
 |some (.array n _)=>some n
 |some (.pointer a)=>match P.underlying a with
  |some (.array n _)=>some n
  |_=>none
 |_=>none
theorem RB(x:Operand)(t:TypeId)(an:o.op= .call {callee:=.builtin .len,args:=#[x],argTypes:=#[t]}){n:Nat}(aH:Dw P t=some n):
 cQ P G o s (.av (.v (.int .i64 (n:Int)))):=
 fun _ a w β ro ag=>by
  refine⟨.int .i64 n,?_,.fE rfl⟩
  unfold Dw at aH
  split at aH
  ·rename_i m e hu
   simp only[Option.some.injEq]at aH;subst aH;simp[execOp,an,resolve,invoke,builtin,Builtin.len_,run_underlying hu,goInt]
  ·rename_i p hu
   split at aH
   ·rename_i m e zdv
    simp only[Option.some.injEq]at aH;subst aH;simp[execOp,an,resolve,invoke,builtin,Builtin.len_,run_underlying hu,run_underlying zdv,goInt]
   ·cases aH
  ·cases aH
def j7(P:Program)(t:TypeId):Option Nat:=
 match P.underlying t with
 |some (.slice e)=>(P.info? e).map (·.size)
 |_=>none
theorem zU{t n:Nat}(h:j7 P t=some n): ∃e,P.underlying t=some (.slice e)∧∀w,(sizeOf e).run P w= .ok n w:=by
 unfold j7 at h
 split at h
 ·rename_i e hu
  cases hi:P.info? e with
  |none=>simp[hi]at h
  |some i=>
   simp[hi]at h;subst h;exact⟨e,hu,fun w=>by simp[sizeOf,typeInfo,hi]⟩
 ·cases h
def mo(σ:Heap)(n j:Nat):aD→Option aD
 | .av (.aO m es)=>if m=n then match es[j]? with
  |some e=>some (.av (.ptr e))
  |none=>none
  else none
 | .aO id=>match aE σ id with
  |some (.row false _ m es)=>if m=n∧j<es.length then some (.cW id j 0)else none
  |some (.row true _ m es)=>if m=n then match es[j]? with
   |some e=>some (.av (.ptr e))
   |none=>none
   else none
  |_=>none
 |_=>none
theorem cR.elem{w:World}{ro:Nat→Prop}{n:Nat}{es:List (List a6)}{c:Value}(h:cR w ro (.aO n es) c){j:Nat}{e:List a6}(af:es[j]? =some e):
 ∃a cap,c= .slice (some a) es.length cap∧cR w ro (.ptr e) (.pointer (some (a.add (j*n)))):=by
 cases h with
 |aO _ _ b cap f aa ae au aQ bF=>
  have cM:j<es.length:=(List.getElem?_eq_some_iff.1 af).1
  obtain⟨a,rfl,hc⟩:=aQ (by omega)
  have nS:e.length=n:=au e (List.mem_of_getElem? af)
  have k1:j*n+n≤es.length*n:=by rw[←Nat.succ_mul];exact Nat.mul_le_mul_right n cM
  refine⟨a,cap,rfl,.ptr _ _ (fun k=>f (j*n+k)) (fun k x aj=>?_) (fun k x aj=>?_)⟩
  ·have o6:k<n:=by have:=(List.getElem?_eq_some_iff.1 aj).1;omega
   rw[qi,zC];exact hc _ (by omega)
  ·have o6:k<n:=by have:=(List.getElem?_eq_some_iff.1 aj).1;omega
   exact bF _ _ (by rw[rr au af k o6];exact aj)
theorem RD{w:World}{ro:Nat→Prop}{σ:Heap}{β:Nat→Value}{N:Nat}(bb:hj w ro σ β N){x:aD}{c:Value}(h:bs w ro σ β N x c){n j:Nat}{p:aD}(ak:mo σ n j x=some p):
 ∃a len cap,c= .slice (some a) len cap∧j<len∧bs w ro σ β N p (.pointer (some (a.add (j*n)))):=by
 cases h with
 |av x c hx=>
  cases x with
  |v=>simp[mo]at ak
  |ptr=>simp[mo]at ak
  |mp=>simp[mo]at ak
  |et=>simp[mo]at ak
  |li=>simp[mo]at ak
  |aO m es=>
   simp only[mo]at ak
   split at ak
   ·rename_i hm
    subst hm
    split at ak
    ·rename_i e he
     simp only[Option.some.injEq]at ak;subst ak;obtain⟨a,cap,hc,ag⟩:=hx.elem he;exact⟨a,es.length,cap,hc,(List.getElem?_eq_some_iff.1 he).1,.av _ _ ag⟩
    ·cases ak
   ·cases ak
 |aO id c aq aI=>
  simp only[mo]at ak
  split at ak
  ·rename_i t m es ah
   split at ak
   ·rename_i hm
    obtain⟨rfl,af⟩:=hm;simp only[Option.some.injEq]at ak;subst ak
    have dh:=bb.c6 id _ ah
    cases dh with
    |row _ _ _ xs aa=>
     rcases aa.2 with⟨_,aS⟩|⟨g,cap,cur,aw,_⟩
     ·omega
     ·rw[aI _ _ _ _ ah,aw]
      refine⟨_,_,_,rfl,af,.cW _ _ _ _ aq fun iw bD cJ dQ dW=>?_⟩
      rw[ah]at dW;simp only[Option.some.injEq,ek.row.injEq]at dW;obtain⟨_,_,rfl,_⟩:=dW;exact⟨g,_,_,aw,by rw[addLit];simp⟩
   ·cases ak
  ·rename_i t m es ah
   split at ak
   ·rename_i hm
    subst hm
    split at ak
    ·rename_i e he
     simp only[Option.some.injEq]at ak;subst ak
     have dh:=bb.c6 id _ ah
     cases dh with
     |gb _ _ _ aa=>
      obtain⟨a,cap,hc,ag⟩:=aa.elem he;exact⟨a,es.length,cap,by rw[aI _ _ _ _ ah,hc],(List.getElem?_eq_some_iff.1 he).1,.av _ _ ag⟩
    ·cases ak
   ·cases ak
  ·cases ak
 |_=>simp[mo]at ak
theorem RE(t:TypeId)(x i:Operand)(an:o.op= .indexAddr t x i){n:Nat}(aH:j7 P t=some n){k:IntKind}{j:Nat}(hi:aJ G s i= .av (.v (.int k (j:Int)))){p:aD}(ak:mo s.heap n j (aJ G s x)=some p):
 cQ P G o s p:=
 fun _ a w β ro ag=>by
  obtain⟨cX,len,cap,hc,af,dB⟩:=RD ag.heap (ag.eval x) ak;obtain⟨e,hu,bN⟩:=zU aH;refine⟨_,?_,dB⟩
  have oO:(0:Int)≤j∧(j:Int)<len:=⟨by omega,by omega⟩
  simp[execOp,an,hc,ag.ef hi,Instr.indexAt,asIntOf,run_underlying hu,af,bN]
def uV(P:Program)(t:TypeId):Option (Nat × Nat):=
 match P.underlying t with
 |some (.array n e)=>(P.info? e).map fun i=>(n,i.size)
 |_=>none
theorem Km(t:TypeId)(x i:Operand)(an:o.op= .indexAddr t x i){len n:Nat}(aH:uV P t=some (len,n)){k:IntKind}{j:Nat}(hi:aJ G s i= .av (.v (.int k (j:Int))))(af:j<len)
 {cs:List aD}(dJ:fp s.heap (aJ G s x)=some cs){p:aD}(ak:iP (j*n) (aJ G s x)=some p):
 cQ P G o s p:=
 fun _ a w β ro ag=>by
  obtain⟨cX,hc,dB⟩:=QX ak dJ (ag.eval x);unfold uV at aH
  split at aH
  ·rename_i m e hu
   cases uW:P.info? e with
   |none=>simp[uW]at aH
   |some zdw=>
    simp[uW]at aH;obtain⟨rfl,rfl⟩:=aH;refine⟨_,?_,dB⟩
    simp[execOp,an,hc,ag.ef hi,Instr.indexAt,asIntOf,run_underlying hu,Instr.sureAddr,af,sizeOf,typeInfo,uW]
  ·cases aH
theorem RF(t:TypeId)(x i:Operand)(an:o.op= .index t x i)(aH:P.underlying t=some .string){k:IntKind}{j:Nat}(hi:aJ G s i= .av (.v (.int k (j:Int)))){b:ByteArray}(hx:aJ G s x= .av (.v (.string b)))
 {u:UInt8}(hu:b.data.toList[j]? =some u):cQ P G o s (.av (.v (.int .u8 (u.toNat:Int)))):=
 fun _ a w β ro ag=>by
  have af:b[j]? =some u:=by
   have aa:j<b.size:=by have:=(List.getElem?_eq_some_iff.1 hu).1;simpa using this
   rw[ByteArray.getElem?_lt' b j aa]
   rw[List.getElem?_eq_some_iff]at hu
   obtain⟨_,ae⟩:=hu;simp only[Option.some.injEq];rw[←ae];rfl
  exact⟨_,by simp[execOp,an,ag.ef hx,ag.ef hi,Instr.index,asIntOf,run_underlying aH,af],.fE rfl⟩
def w1(P:Program)(t:TypeId)(f:Nat):Option (Nat × Option Nat):=
 match P.underlying t with
 |some (.struct fs)=>match fs[f]? with
  |some fd=>if scalar P fd.type then some (fd.offset,none)else match mi P fd.type with
   |some n=>some (fd.offset,some n)
   |none=>none
  |none=>none
 |_=>none
theorem RG(t:TypeId)(x:Operand)(f:Nat)(an:o.op= .field t x f){off:Nat}(aH:w1 P t f=some (off,none)){cs:List aD}(hx:aJ G s x= .agg cs){v:aD}(aw:cs[off]? =some v):
 cQ P G o s v:=
 fun _ a w β ro ag=>by
  have h:=ag.eval x
  rw[hx]at h;generalize he:a.eval x=c at h
  cases h with
  |agg _ c ai hc=>
   have bH:off<c.size:=by have:=(List.getElem?_eq_some_iff.1 aw).1;omega
   unfold w1 at aH
   split at aH
   ·rename_i fs hu
    split at aH
    ·rename_i fd hf
     split at aH
     ·rename_i hsc
      simp only[Option.some.injEq,Prod.mk.injEq,and_true]at aH;subst aH;refine⟨c[fd.offset],?_,by simpa[bH]using hc _ v aw⟩
      simp[execOp,an,he,Instr.field,run_underlying hu,hf,asAgg,part,zE hsc,bH]
     ·split at aH
      ·simp at aH
      ·cases aH
    ·cases aH
   ·cases aH
theorem RH(t:TypeId)(x:Operand)(f:Nat)(an:o.op= .field t x f){off n:Nat}(aH:w1 P t f=some (off,some n)){cs:List aD}(hx:aJ G s x= .agg cs)(hn:off+n≤cs.length):
 cQ P G o s (.agg ((cs.drop off).take n)):=
 fun _ a w β ro ag=>by
  have h:=ag.eval x
  rw[hx]at h;generalize he:a.eval x=c at h
  cases h with
  |agg _ c ai hc=>
   unfold w1 at aH
   split at aH
   ·rename_i fs hu
    split at aH
    ·rename_i fd hf
     split at aH
     ·simp at aH
     ·split at aH
      ·rename_i m bR
       simp only[Option.some.injEq,Prod.mk.injEq]at aH;obtain⟨rfl,rfl⟩:=aH;obtain⟨g1,g2⟩:=Dj bR w;refine⟨.agg (c.extract fd.offset (fd.offset+m)),?_,.agg _ _ (by simp;omega) fun j y af=>?_⟩
       ·simp[execOp,an,he,Instr.field,run_underlying hu,hf,asAgg,part,g1,g2]
       ·rw[List.getElem?_take]at af
        split at af
        ·rename_i RI
         rw[List.getElem?_drop]at af
         have:=hc _ y af
         have aa:fd.offset+j<c.size:=by omega
         have ae:j<(c.extract fd.offset (fd.offset+m)).size:=by simp;omega
         simp only[Array.getD,ae,dif_pos];simpa[aa]using this
        ·cases af
      ·cases aH
    ·cases aH
   ·cases aH
def places(P:Program)(t:TypeId):Option (Nat→Option (Nat × Nat)):=
 match P.underlying t with
 |some (.struct fs)=>if fs.toList.all fun f=>(P.info? f.type).isSome then some fun i=>(fs.toList.map fun f=>(f.offset,((P.info? f.type).map (·.size)).getD 0))[i]? else none
 |some (.array _ e)=>match P.info? e with
  |some inf=>some fun i=>some (i*inf.size,inf.size)
  |none=>none
 |_=>none
def j8(place:Nat→Option (Nat × Nat)):List aD→List (Nat × aD)→Option (List aD)
 |cs,[]=>some cs
 |cs,(i,v)::rest=>match place i with
  |some (off,size)=>if(cT v).length=size∧off+size≤cs.length then j8 place (en cs off (cT v)) rest else none
  |none=>none
theorem RJ(off:Nat): ∀(vs:List Value) (k:Nat) (cs:Array Value),off+k+vs.length≤cs.size→
 ((vs.zipIdx k).foldl (fun(cs:Array Value) (x:Value × Nat)=>cs.setIfInBounds (off+x.2) x.1) cs).toList=en cs.toList (off+k) vs
 |[],k,cs,h=>by simp[en]
 |v::vs,k,cs,h=>by
  simp only[List.zipIdx_cons,List.foldl_cons];rw[RJ off vs (k+1) (cs.setIfInBounds (off+k) v) (by simp at h⊢;omega)]
  have e:=list_seg_step cs.toList (off+k) v vs (by simp at h⊢;omega)
  simp only[en,Array.toList_setIfInBounds,←Nat.add_assoc]at*;simp only[List.append_assoc]at e;rw[e];simp[Nat.add_assoc]
theorem Dx{place place':Nat→Option (Nat × Nat)}(rH: ∀i p,place i=some p→place' i=some p){w:World}{ro:Nat→Prop}{σ:Heap}{β:Nat→Value}{N:Nat}(bb:hj w ro σ β N):
    ∀{ps:List (Nat × aD)} {qs:List (Nat × Value)} {cs ds:List aD} {xs:Array Value},j8 place cs ps=some ds→ps.map (·.1)=qs.map (·.1)→(∀(j:Nat) (p:Nat × aD) (q:Nat × Value),ps[j]? =some p→qs[j]? =some q→bs w ro σ β N p.2 q.2∧(cT p.2).all (eE σ)=true)→
    xs.size=cs.length→(∀j x,cs[j]? =some x→bs w ro σ β N x (xs.getD j undef))→
    ∃ys,Instr.fill place' xs qs=some ys∧ys.size=ds.length∧∀j x,ds[j]? =some x→bs w ro σ β N x (ys.getD j undef)
  |[],qs,cs,ds,xs,hf,aj,_,ai,hx=>by
    simp[j8]at hf;subst hf
    have:qs=[]:=by cases qs with
      |nil=>rfl
      |cons=>simp at aj
    subst this;exact⟨xs,by simp[Instr.fill],ai,hx⟩
  |(i,v)::ps,[],cs,ds,xs,hf,aj,_,ai,hx=>by simp at aj
  |(i,v)::ps,(zV,u)::qs,cs,ds,xs,hf,aj,ag,ai,hx=>by
    simp only[List.map_cons,List.cons.injEq]at aj;obtain⟨rfl,aj⟩:=aj;simp only[j8]at hf
    split at hf
    · rename_i off size ak
      split at hf
      · rename_i hc
        obtain⟨Dy,Kn⟩:=hc
        have dB:bs w ro σ β N v u:=(ag 0 (i,v) (i,u) rfl rfl).1
        have ec:(cT v).all (eE σ)=true:=(ag 0 (i,v) (i,u) rfl rfl).2
        obtain⟨g1,g2,_⟩:=dB.cT ec bb
        have RK:=RJ off u.cells.toList 0 xs (by simp;omega)
        simp only[Nat.add_zero]at RK
        have aY:=Dx rH bb (ps:=ps) (qs:=qs) (cs:=en cs off (cT v)) (ds:=ds) (xs:=(en xs.toList off u.cells.toList).toArray) hf aj (fun j p q aa ae=>ag (j+1) p q aa ae)
          (by rw[List.size_toArray,qj _ _ _ (by simp;omega),qj _ _ _ (by omega)];simpa using ai) (fun j x af=>by
            have:=J3 (bs w ro σ β N) undef (cs:=cs) (vs:=cT v) (xs:=xs.toList) (ys:=u.cells.toList) (off:=off) (by simp;omega) (by simp;omega) (by omega)
              (fun j x af=>by have:=hx j x af;simpa[Array.getD_eq_getD_getElem?,List.getD]using this) (fun j x af=>by have:=g2 j x af;simpa[Array.getD_eq_getD_getElem?,List.getD]using this) j x af
            simpa[Array.getD_eq_getD_getElem?,List.getD]using this)
        obtain⟨ys,aa,ae,au⟩:=aY;refine⟨ys,?_,ae,au⟩
        rw[Instr.fill.eq_2,rH _ _ ak];simp only;rw[if_neg (by simp;omega)]
        have zdx:Array.foldl (fun cs x=>match x with
            |(c,j)=>cs.setIfInBounds (off+j) c) xs u.cells.zipIdx=(en xs.toList off u.cells.toList).toArray:=by
          apply Array.ext';rw[←RK,←Array.foldl_toList];simp
        rw[zdx];exact aa
      · cases hf
    · cases hf
theorem run_places(w:World): ∀l:List Field,(l.all fun f=>(P.info? f.type).isSome)=true→(l.mapM (fun f=>do
    let n ←sizeOf f.type
    pure (f.offset,n):Field→Sem (Nat × Nat))).run P w= .ok (l.map fun f=>(f.offset,((P.info? f.type).map (·.size)).getD 0)) w
  |[],_=>by simp
  |f::r,h=>by
    simp only[List.all_cons,Bool.and_eq_true]at h
    have aY:=run_places w r h.2
    cases hi:P.info? f.type with
    |none=>simp[hi]at h
    |some inf=>
      have aa:(sizeOf f.type).run P w= .ok inf.size w:=by simp[sizeOf,typeInfo,hi]
      simp only[List.mapM_cons,Sem.run_bind,aa,Result.andThen_ok,Sem.run_pure,aY];simp[hi]
theorem run_build{t:TypeId}{pl:Nat→Option (Nat × Nat)}(ak:places P t=some pl){zs:List Value}(aS:zeroCells P t=some zs){parts:Array (Nat × Value)}{ys:Array Value}(hf:Instr.fill pl zs.toArray parts.toList=some ys)(w:World):
    (Instr.build t parts).run P w= .ok (.agg ys) w:=by
  obtain⟨z,j6,o1,_⟩:=zK aS w;unfold places at ak
  split at ak
  · rename_i fs hu
    split at ak
    · rename_i ec
      simp only[Option.some.injEq]at ak;subst ak
      have aa:=run_places w fs.toList ec
      have ae:(fs.mapM (fun f=>do
          let n ←sizeOf f.type
          pure (f.offset,n):Field→Sem (Nat × Nat))).run P w= .ok (fs.toList.map fun f=>(f.offset,((P.info? f.type).map (·.size)).getD 0)).toArray w:=by
        rw[Array.mapM_eq_mapM_toList];simp only[Sem.run_map,aa];rfl
      simp only[Instr.build,Sem.run_bind,j6,Result.andThen_ok,run_underlying hu,ae,o1]
      have au:(fun(x:Nat)=>(fs.toList.map fun f=>(f.offset,((P.info? f.type).map (·.size)).getD 0)).toArray[x]?)=(fun(i:Nat)=>(fs.toList.map fun f=>(f.offset,((P.info? f.type).map (·.size)).getD 0))[i]?):=by
        funext i;simp
      rw[au,hf];rfl
    · cases ak
  · rename_i n e hu
    split at ak
    · rename_i inf hi
      simp only[Option.some.injEq]at ak;subst ak
      have aa:(sizeOf e).run P w= .ok inf.size w:=by simp[sizeOf,typeInfo,hi]
      simp only[Instr.build,Sem.run_bind,j6,Result.andThen_ok,run_underlying hu,aa,o1,hf];rfl
    · cases ak
  · cases ak
theorem Ko{w:World}{ro:Nat→Prop}{σ:Heap}{β:Nat→Value}{N:Nat}{zs:List Value}(ec:zs.all Value.oneCell'=true): ∀(j:Nat) (x:aD),(zs.map fun z=>aD.av (.v z))[j]? =some x→bs w ro σ β N x (zs.toArray.getD j undef):=by
 intro j x af
 rw[List.getElem?_map]at af
 cases ry:zs[j]? with
 |none=>simp[ry]at af
 |some y=>
  simp[ry]at af;subst af
  have:y.oneCell'=true:=by
   rw[List.all_eq_true]at ec;exact ec y (List.mem_of_getElem? ry)
  simpa[ry]using bs.av (w:=w) (ro:=ro) (σ:=σ) (β:=β) (N:=N) _ _ (.v y this)
theorem Kp{E:Entry}{a:Act}{w:World}{β:Nat→Value}{ro:Nat→Prop}(ag:c3 E G s a w β ro){parts:Array (Nat × Operand)}{ps:List (Nat × aD)}(rI:parts.toList.map (fun p=>(p.1,aJ G s p.2))=ps)
 (ec:ps.all (fun p=>(cT p.2).all (eE s.heap))=true):
 ps.map (·.1)=(parts.map fun p=>(p.1,a.eval p.2)).toList.map (·.1)∧
 ∀(j:Nat) (p:Nat × aD) (q:Nat × Value),ps[j]? =some p→(parts.map fun p=>(p.1,a.eval p.2)).toList[j]? =some q→bs w ro s.heap β s.next p.2 q.2∧(cT p.2).all (eE s.heap)=true:=by
 subst rI
 refine⟨by simp,fun j p q aa ae=>?_⟩
 have ak:(cT p.2).all (eE s.heap)=true:=by
  rw[List.all_eq_true]at ec;exact ec p (List.mem_of_getElem? aa)
 rw[List.getElem?_map]at aa
 rw[Array.toList_map,List.getElem?_map]at ae
 cases af:parts.toList[j]? with
 |none=>simp[af]at aa
 |some y=>
  simp[af]at aa ae;subst aa ae;exact⟨ag.eval _,ak⟩
theorem RL(t:TypeId)(parts:Array (Nat × Operand))(an:o.op= .build t parts){pl:Nat→Option (Nat × Nat)}(ak:places P t=some pl){zs:List Value}(aS:zeroCells P t=some zs)(sU:zs.all Value.oneCell'=true)
 {ps:List (Nat × aD)}(rI:parts.toList.map (fun p=>(p.1,aJ G s p.2))=ps)(ec:ps.all (fun p=>(cT p.2).all (eE s.heap))=true){ds:List aD}(hf:j8 pl (zs.map fun z=>.av (.v z)) ps=some ds):
 cQ P G o s (.agg ds):=
 fun _ a w β ro ag=>by
  obtain⟨aa,ae⟩:=Kp ag rI ec;obtain⟨ys,g1,g2,g3⟩:=Dx (place':=pl) (fun _ _ h=>h) ag.heap hf aa ae (xs:=zs.toArray) (by simp) (Ko sU)
  refine⟨.agg ys,?_,.agg _ _ g2 g3⟩
  have ad:=run_build (P:=P) ak aS g1 w
  simp only[execOp,an,Sem.run_bind]
  erw [ad]
  rfl
end
end Go.aL
namespace Go.aL
open Go
mutual
def dY(id:Nat):aD→aD
 | .av x=>.av x
 | .agg cs=>.agg (eg id cs)
 | .tuple cs=>.tuple (eg id cs)
 | .ptr k off=>if k=id then .top else .ptr k off
 | .dA k off=>if k=id then .top else .dA k off
 | .cW k i off=>if k=id then .top else .cW k i off
 | .aO k=>if k=id then .top else .aO k
 | .fn f p q=>.fn f (eg id p) (eg id q)
 | .ref k=>if k=id then .top else .ref k
 | .top=>.top
def eg(id:Nat):List aD→List aD
 |[]=>[]
 |x::r=>dY id x::eg id r
end
def dv(id:Nat):Heap→Heap
 |[]=>[]
 |(k,.box t cs)::r=>if k=id then dv id r else(k,.box t (eg id cs))::dv id r
 |(k,.row z t n es)::r=>if k=id then dv id r else(k,.row z t n es)::dv id r
 |(k,.bM bP)::r=>if k=id then dv id r else(k,.bM bP)::dv id r
def ey(id:Nat):ek→ek
 | .box t cs=>.box t (eg id cs)
 | .row z t n es=>.row z t n es
 | .bM bP=>.bM bP
theorem h4(d:Nat): ∀(l:List aD),(eg d l).length=l.length
 |[]=>rfl
 |x::r=>by simp[eg,h4 d r]
theorem hQ(d:Nat): ∀{l:List aD} {j:Nat} {x:aD},(eg d l)[j]? =some x→∃y,l[j]? =some y∧x=dY d y
 |[],j,x,h=>by simp[eg]at h
 |y::r,j,x,h=>by
  cases j with
  |zero=>simp[eg]at h;exact⟨y,by simp,h.symm⟩
  |succ j=>simp[eg]at h;simpa using hQ d h
theorem qp(id:Nat): ∀(σ:Heap) (k:Nat),aE (dv id σ) k=if k=id then none else(aE σ k).map (ey id)
 |[],k=>by simp[dv,aE]
 |(j,.box t cs)::r,k=>by
  have aY:=qp id r k
  by_cases af:j=id
  ·subst af
   by_cases aj:k=j
   ·subst aj;simpa[dv]using aY
   ·simp[dv,aE,aY,aj,Ne.symm aj]
  ·by_cases aj:j=k
   ·subst aj;simp[dv,aE,af,ey]
   ·simp[dv,aE,af,aj,aY]
 |(j,.row z t n es)::r,k=>by
  have aY:=qp id r k
  by_cases af:j=id
  ·subst af
   by_cases aj:k=j
   ·subst aj;simpa[dv]using aY
   ·simp[dv,aE,aY,aj,Ne.symm aj]
  ·by_cases aj:j=k
   ·subst aj;simp[dv,aE,af,ey]
   ·simp[dv,aE,af,aj,aY]
 |(j,.bM bP)::r,k=>by
  have aY:=qp id r k
  by_cases af:j=id
  ·subst af
   by_cases aj:k=j
   ·subst aj;simpa[dv]using aY
   ·simp[dv,aE,aY,aj,Ne.symm aj]
  ·by_cases aj:j=k
   ·subst aj;simp[dv,aE,af,ey]
   ·simp[dv,aE,af,aj,aY]
theorem jq(id:Nat)(o:ek):(ey id o).live=o.live:=by cases o<;>rfl
section
variable {P:Program} {G:a8} {s:aP} {E:Entry} {a:Act} {w w':World} {β:Nat→Value} {ro:Nat→Prop}
theorem c3.renew(h:c3 E G s a w β ro)(id:Nat)(ad:s.base≤id)(bH:id<s.next){t0:TypeId}{n0:Nat}{zW:List (List a6)}(bd:aE s.heap id=some (.row false t0 n0 zW))(o:ek)(val:Value)
 (oY:w'.os=w.os)(oZ:w'.tape=w.tape)(kF:w'.output=w.output)(bN:w.heap.size≤w'.heap.size)(hw: ∀b,b<w.heap.size→b3 (β id)≠some b→w'.heap[b]? =w.heap[b]?)
 (gI: ∀b,b3 val=some b→b3 (β id)=some b∨w.heap.size≤b)(_hlive:o.live=true)
 (dh:k9 w' ro ((id,o)::dv id s.heap) (gW β id val) s.next id o):
 c3 E G ⟨eg id s.cS,(id,o)::dv id s.heap,s.next,s.base⟩ a w' (gW β id val) ro:=by
 have cc: ∀b,ro b→w'.heap[b]? =w.heap[b]? :=fun b ag=>hw b (h.heap.lt b ag) fun ad=>h.heap.fh b ag ⟨id,_,bd,rfl,ad⟩
 have ah: ∀k,k≠id→aE ((id,o)::dv id s.heap) k=(aE s.heap k).map (ey id):=fun k aj=>by simp[aE,Ne.symm aj,qp,aj]
 have uR:aE ((id,o)::dv id s.heap) id=some o:=by simp[aE]
 have key: ∀x c,bs w ro s.heap β s.next x c→bs w' ro ((id,o)::dv id s.heap) (gW β id val) s.next (dY id x) c:=by
  intro x c hx
  induction hx with
  |av x c hx=>exact .av x c (hx.keep cc fun _ h=>h)
  |agg cs c ai _ aY=>
   refine .agg _ c (by rw[h4];exact ai) fun j x af=>?_
   obtain⟨y,ax,rfl⟩:=hQ id af;exact aY j y ax
  |tuple cs c ai _ aY=>
   refine .tuple _ c (by rw[h4];exact ai) fun j x af=>?_
   obtain⟨y,ax,rfl⟩:=hQ id af;exact aY j y ax
  |ptr k off c aq ak=>
   simp only[dY]
   split
   ·exact .top _
   ·rename_i aj
    refine .ptr k off c aq fun t cs bn=>?_
    rw[c0 _ _ aj];rw[ah k aj]at bn
    cases ai:aE s.heap k with
    |none=>simp[ai]at bn
    |some p=>
     cases p with
     |box bD cs'=>exact ak bD cs' ai
     |row=>simp[ai,ey]at bn
     |bM=>simp[ai,ey]at bn
  |dA k off c aq ak=>
   simp only[dY]
   split
   ·exact .top _
   ·rename_i aj
    refine .dA k off c aq fun t cs bn=>?_
    rw[c0 _ _ aj];rw[ah k aj]at bn
    cases ai:aE s.heap k with
    |none=>simp[ai]at bn
    |some p=>
     cases p with
     |box bD cs'=>exact ak bD cs' ai
     |row=>simp[ai,ey]at bn
     |bM=>simp[ai,ey]at bn
  |cW k i off c aq ak=>
   simp only[dY]
   split
   ·exact .top _
   ·rename_i aj
    refine .cW k i off c aq fun z t n es bn=>?_
    rw[c0 _ _ aj];rw[ah k aj]at bn
    cases ai:aE s.heap k with
    |none=>simp[ai]at bn
    |some p=>
     cases p with
     |box bD cs'=>simp[ai,ey]at bn
     |bM=>simp[ai,ey]at bn
     |row iw bD cJ dQ=>
      simp only[ai,Option.map_some,ey,Option.some.injEq,ek.row.injEq]at bn;obtain⟨rfl,rfl,rfl,rfl⟩:=bn;exact ak _ _ _ _ ai
  |aO k c aq ak=>
   simp only[dY]
   split
   ·exact .top _
   ·rename_i aj
    refine .aO k c aq fun z t n es bn=>?_
    rw[c0 _ _ aj];rw[ah k aj]at bn
    cases ai:aE s.heap k with
    |none=>simp[ai]at bn
    |some p=>
     cases p with
     |box bD cs'=>simp[ai,ey]at bn
     |bM=>simp[ai,ey]at bn
     |row iw bD cJ dQ=>exact ak _ _ _ _ ai
  |fn f p q c d aa ae _ _ hl ho=>
   refine .fn f _ _ c d (by rw[h4];exact aa) (by rw[h4];exact ae) (fun j x af=>?_) (fun j x af=>?_)
   ·obtain⟨y,ax,rfl⟩:=hQ id af
    exact hl j y ax
   ·obtain⟨y,ax,rfl⟩:=hQ id af
    exact ho j y ax
  |ref k c aq ak=>
   simp only[dY]
   split
   ·exact .top _
   ·rename_i aj
    refine .ref k c aq fun bP bn=>?_
    rw[c0 _ _ aj];rw[ah k aj]at bn
    cases ai:aE s.heap k with
    |none=>simp[ai]at bn
    |some p=>
     cases p with
     |box=>simp[ai,ey]at bn
     |row=>simp[ai,ey]at bn
     |bM lI=>exact ak lI ai
  |top c=>exact .top c
 have dL: ∀k p,k≠id→aE ((id,o)::dv id s.heap) k=some p→∃q,aE s.heap k=some q∧p=ey id q:=by
  intro k p aj bn;rw[ah k aj]at bn
  cases ai:aE s.heap k with
  |none=>simp[ai]at bn
  |some q=>simp[ai]at bn;exact⟨q,rfl,bn.symm⟩
 refine⟨h.defers,by simpa[h4]using h.size,fun i x hx=>?_,⟨fun k p aj=>?_,fun k bk p fX b aj eB ak gJ bg eu=>?_,fun b ag=>?_,fun b ag=>Nat.lt_of_lt_of_le (h.heap.lt b ag) bN⟩,
  h.ic.keep cc fun _ h=>h,?_,h.base⟩
 ·obtain⟨y,ax,rfl⟩:=hQ id hx
  exact key _ _ (h.slot i y ax)
 ·by_cases bx:k=id
  ·subst bx
   rw[uR]at aj;simp only[Option.some.injEq]at aj;subst aj;exact dh
  ·obtain⟨q,aI,rfl⟩:=dL k p bx aj
   have gK:=h.heap.c6 k q aI
   have b4:q.live=true→∀b,b3 (β k)=some b→w'.heap[b]? =w.heap[b]? :=fun aq b bg=>
    hw b (gK.hL aq bg) fun jN=>bx (h.heap.inj k id q _ b aI bd aq rfl bg jN)
   cases gK with
   |box t cs b arr aa ae au aQ=>
    refine .box t _ b arr (by rw[c0 _ _ bx];exact aa) ((b4 rfl b (by rw[aa];rfl)).trans ae) (by rw[h4];exact au) fun j x af=>?_
    obtain⟨y,ax,rfl⟩:=hQ id af;exact key _ _ (aQ j y ax)
   |row t n es xs aa ae au=>exact .row t n es xs (by rw[c0 _ _ bx];exact aa.keep (fun b ad=>b4 rfl b ad) bN) ae fun j x af=>(au j x af).keep cc fun _ h=>h
   |gb t n es aa=>exact .gb t n es (by rw[c0 _ _ bx];exact aa.keep cc fun _ h=>h)
   |bM bP b o aa ae au=>exact .bM bP b o (by rw[c0 _ _ bx];exact aa) ((b4 rfl b aa).trans ae) (by rw[c0 _ _ bx];exact bP.mono _ _ _ _ (fun x c h=>h.keep cc fun _ h=>h) au)
 ·by_cases bx:k=id
  ·by_cases gL:bk=id
   ·rw[bx,gL]
   ·subst bx
    rw[dS]at bg;rw[c0 _ _ gL]at eu;obtain⟨q,aI,rfl⟩:=dL bk fX gL eB;rw[jq]at gJ
    have ae:=(h.heap.c6 bk q aI).hL gJ eu
    rcases gI b bg with aa|aa
    ·exact(h.heap.inj bk k q _ b aI bd gJ rfl eu aa).symm
    ·omega
  ·obtain⟨q,aI,rfl⟩:=dL k p bx aj
   rw[jq]at ak;rw[c0 _ _ bx]at bg
   by_cases gL:bk=id
   ·subst gL
    rw[dS]at eu
    have ae:=(h.heap.c6 k q aI).hL ak bg
    rcases gI b eu with aa|aa
    ·exact h.heap.inj k bk q _ b aI bd ak rfl bg aa
    ·omega
   ·obtain⟨q',uS,rfl⟩:=dL bk fX gL eB
    rw[jq]at gJ;rw[c0 _ _ gL]at eu;exact h.heap.inj k bk q q' b aI uS ak gJ bg eu
 ·rintro⟨k,p,aj,ak,bg⟩
  by_cases bx:k=id
  ·subst bx
   rw[dS]at bg
   rcases gI b bg with aa|aa
   ·exact h.heap.fh b ag ⟨k,_,bd,rfl,aa⟩
   ·have:=h.heap.lt b ag;omega
  ·obtain⟨q,aI,rfl⟩:=dL k p bx aj
   rw[jq]at ak;rw[c0 _ _ bx]at bg;exact h.heap.fh b ag ⟨k,q,aI,ak,bg⟩
 ·have t:=h.trans
  refine⟨oY.trans t.os,oZ.trans t.tape,kF.trans t.output,Nat.le_trans t.size bN,fun b hM gf=>?_,t.jl,t.j2,?_,fun k aj p bn=>?_,fun k p bn=>?_,t.le⟩
  ·by_cases jN:b3 (β id)=some b
   ·rcases t.hk b ⟨id,_,bd,rfl,jN⟩with hc|hc
    ·exact absurd hc gf
    ·omega
   ·rw[hw b (Nat.lt_of_lt_of_le hM t.size) jN]
    exact t.frame b hM gf
  ·rintro b ⟨k,p,aj,ak,bg⟩
   by_cases bx:k=id
   ·subst bx
    rw[dS]at bg
    rcases gI b bg with aa|aa
    ·exact t.hk b ⟨k,_,bd,rfl,aa⟩
    ·exact .inr (Nat.le_trans t.size aa)
   ·obtain⟨q,aI,rfl⟩:=dL k p bx aj
    rw[jq]at ak;rw[c0 _ _ bx]at bg;exact t.hk b ⟨k,q,aI,ak,bg⟩
  ·have bx:k≠id:=by have:=h.base;omega
   obtain⟨q,aI,rfl⟩:=dL k p bx bn;rw[c0 _ _ bx];exact t.dL k aj q aI
  ·by_cases bx:k=id
   ·subst bx;exact bH
   ·obtain⟨q,aI,rfl⟩:=dL k p bx bn
    exact t.new k q aI
def chunk{α:Type}(n:Nat):Nat→List α→List (List α)
 |0,_=>[]
 |k+1,l=>l.take n::chunk n k (l.drop n)
theorem zX{α:Type}(n:Nat): ∀(k:Nat) (l:List α),(chunk n k l).length=k
 |0,_=>rfl
 |k+1,l=>by simp[chunk,zX n k]
theorem RM{α:Type}(n:Nat): ∀(k:Nat) (l:List α),l.length=k*n→∀e∈chunk n k l,e.length=n
 |0,_,_,e,he=>by simp[chunk]at he
 |k+1,l,h,e,he=>by
  rw[Nat.succ_mul]at h;simp only[chunk,List.mem_cons]at he
  rcases he with rfl|he
  ·simp;omega
  ·exact RM n k (l.drop n) (by simp;omega) e he
theorem RN{α:Type}(n:Nat): ∀(k:Nat) (l:List α),l.length=k*n→(chunk n k l).flatten=l
 |0,l,h=>by
  have:l=[]:=List.eq_nil_of_length_eq_zero (by simpa using h)
  simp[chunk,this]
 |k+1,l,h=>by
  rw[Nat.succ_mul]at h;simp only[chunk,List.flatten_cons];rw[RN n k (l.drop n) (by simp;omega),List.take_append_drop]
theorem ib.Dz{w:World}{t:TypeId}{n:Nat}{v:Value}{len:Nat}{xs:List Value}(h:w.ownsRow 0 t n v len xs):ib w t n v len xs:=by
 obtain⟨aq,ag⟩:=h
 refine⟨aq,?_⟩
 rcases ag with⟨aa,ae⟩|⟨g,cap,cur,aw,_,ah,hle,ig,dJ,aH⟩
 ·exact .inl ⟨⟨none,aa,fun _ h=>(by cases h)⟩,ae⟩
 ·by_cases hc:cap=0
  ·subst hc
   have:len=0:=by omega
   subst this;exact .inl ⟨⟨_,aw,fun a a1=>(by cases a1;exact(Array.getElem?_eq_some_iff.1 ah).1)⟩,rfl⟩
  ·exact .inr ⟨g,cap,cur,aw,by omega,ah,hle,ig,dJ,aH⟩
def w2(P:Program)(G:a8)(o:Oper)(s:aP)(t:TypeId)(n:Nat)(es:List (List a6)):Prop:=
 (∀e∈es,e.length=n)∧∀E a w β ro,c3 E G s a w β ro→∃v xs w',(execOp a.eval o).run P w= .ok (.value v) w'∧w'.ownsRow 0 t n v es.length xs∧w.grownBy w' none∧(∀b,b3 v=some b→w.heap.size≤b)∧
  ∀j x,es.flatten[j]? =some x→cR w ro x (xs.getD j undef)
theorem dR.newRow{o:Oper}{t:TypeId}{n:Nat}{es:List (List a6)}(ad:s.base≤s.next)(bb:w2 P G o s t n es):
 dR P G o s ({s with heap:=(s.next,.row false t n es)::s.heap,next:=s.next+1}.put o.dst (.aO s.next)):=by
 obtain⟨hn,h⟩:=bb
 intro E a w ⟨β,ro,ag⟩ K Q hK
 obtain⟨v,xs,w',cr,hB,cU,gI,eW⟩:=h E a w β ro ag
 unfold Oper.wp
 rw[cr]
 have jm:aE s.heap s.next=none:=by
  cases ah:aE s.heap s.next with
  |none=>rfl
  |some p=>have:=ag.trans.new _ _ ah;omega
 have hw: ∀b,b<w.heap.size→w'.heap[b]? =w.heap[b]? :=fun b ad=>cU.block b ad (by simp)
 have cc: ∀b,ro b→w'.heap[b]? =w.heap[b]? :=fun b ad=>hw b (ag.heap.lt b ad)
 have fe:c3 E G {s with heap:=(s.next,.row false t n es)::s.heap,next:=s.next+1} a w' (gW β s.next v) ro:=by
  refine ag.new s.next jm ad (Nat.le_refl _) _ v cU.os cU.tape cU.output cU.size hw gI rfl ?_
  exact .row t n es xs (by rw[dS];exact .Dz hB) hn fun j x af=>(eW j x af).keep cc fun _ h=>h
 refine hK _ _ ⟨_,ro,fe.put o.dst _ _ ?_⟩
 exact .aO _ _ (Nat.lt_succ_self _) fun z bD cJ dQ _=>(dS _ _ _).symm
theorem zdy{o:Oper}(t:TypeId)(len:Nat)(parts:Array (Nat × Operand))(an:o.op= .buildSlice t len parts){e n:Nat}(hu:P.underlying t=some (.slice e))(bN:(P.info? e).map (·.size)=some n)
 {zs:List Value}(aS:zeroCells P e=some zs)(sU:zs.all Value.oneCell'=true)(mq:zs.length=n)(hlen:0<len*n∧len*n≤16777216)
 {ps:List (Nat × aD)}(rI:parts.toList.map (fun p=>(p.1,aJ G s p.2))=ps)(ec:ps.all (fun p=>(cT p.2).all (eE s.heap))=true)
 {ds:List aD}(hf:j8 (fun i=>some (i*n,n)) ((List.replicate len (zs.map fun z=>aD.av (.v z))).flatten) ps=some ds){rs:List a6}(gM:iQ ds=some rs):
 w2 P G o s e n (chunk n len rs):=by
 have m6:ds.length=len*n:=by
  have: ∀(ps:List (Nat × aD)) (cs ds:List aD),j8 (fun i=>some (i*n,n)) cs ps=some ds→ds.length=cs.length:=by
   intro ps
   induction ps with
   |nil=>intro cs ds h;simp[j8]at h;rw[h]
   |cons p r aY=>
    intro cs ds h;obtain⟨i,v⟩:=p;simp only[j8]at h
    split at h
    ·rename_i hc
     rw[aY _ _ h,qj _ _ _ (by omega)]
    ·cases h
  rw[this ps _ _ hf,j3 (n:=n) (fun e he=>by rw[List.mem_replicate]at he;rw[he.2];simpa using mq)]
  simp
 have RO:rs.length=len*n:=by rw[←m6,Dl gM];simp
 refine⟨RM n len rs RO,fun E a w β ro ag=>?_⟩
 obtain⟨aa,ae⟩:=Kp ag rI ec
 obtain⟨z,j6,o1,_⟩:=zK aS w
 have eW:(List.replicate len (zs.map fun z=>aD.av (.v z))).flatten.length=len*n:=by
  rw[j3 (n:=n) (fun e he=>by rw[List.mem_replicate]at he;rw[he.2];simpa using mq)];simp
 have zdz:zs.toArray.size=n:=by simpa using mq
 have rJ:0<n:=by
  rcases Nat.eq_zero_or_pos n with h|h
  ·rw[h]at hlen;simp at hlen
  ·exact h
 obtain⟨ys,g1,g2,g3⟩:=Dx (place':=fun i=>some (i*n,n)) (fun _ _ h=>h) ag.heap hf aa ae (xs:=(Array.range (len*n)).map fun x=>zs.toArray[x%zs.toArray.size]!) (by rw[eW];simp) (fun j x af=>by
  have cM:j<len*n:=by rw[←eW];exact(List.getElem?_eq_some_iff.1 af).1
  have hm:j=(j/ n)*n+j%n:=by rw[Nat.mul_comm];exact(Nat.div_add_mod j n).symm
  have nX:j%n<n:=Nat.mod_lt _ rJ
  have nY:j/ n<len:=by rw[Nat.div_lt_iff_lt_mul rJ];exact cM
  rw[hm,rr (n:=n) (fun e he=>by rw[List.mem_replicate]at he;rw[he.2];simpa using mq) (i:=j/ n) (e:=zs.map fun z=>aD.av (.v z)) (by simp[nY]) (j%n) nX]at af
  have:=Ko (w:=w) (ro:=ro) (σ:=s.heap) (β:=β) (N:=s.next) sU (j%n) x af
  have aB:(Array.map (fun x=>zs.toArray[x%zs.toArray.size]!) (Array.range (len*n))).getD j undef=zs.toArray.getD (j%n) undef:=by
   have au:j%n<zs.length:=by omega
   simp[cM,mq,List.getElem?_eq_getElem au]
  rw[aB]
  exact this)
 have ml:ys.toList.length=(chunk n len rs).length*n:=by rw[zX];simpa[m6]using g2
 refine⟨.slice (some ⟨w.heap.size,0,none⟩) len len,ys.toList,w.alloc (.cells ys e),?_,?_,World.grownBy_alloc w _ none,fun b bg=>?_,fun j x af=>?_⟩
 ·have zY:(sizeOf e).run P w= .ok n w:=by
   cases hi:P.info? e with
   |none=>simp[hi]at bN
   |some i=>simp[hi]at bN;simp[sizeOf,typeInfo,hi,bN]
  have b4: ¬len*n>2^24:=by omega
  have jr: ¬len*n=0:=by omega
  simp only[execOp,an,Sem.run_bind,Instr.buildSlice,run_underlying hu,Result.andThen_ok,zY,if_neg b4,if_neg jr,j6,Sem.run_pure,o1]
  erw [g1]
  simp[newRow]
 ·rw[zX]
  exact World.ownsRow_lit w ys len (Nat.zero_le _) (by simp only[maxLen];have:=Nat.le_mul_of_pos_right len rJ;omega) (by simpa[m6]using g2)
 ·simp only[b3]at bg
  split at bg
  ·cases bg
  ·simp at bg;omega
 ·rw[RN n len rs RO]at af
  have au:=g3 j (.av x) (by rw[Dl gM];simp[af])
  cases au with
  |av _ _ au=>
   have:ys.toList.getD j undef=ys.getD j undef:=by simp[List.getD,Array.getD_eq_getD_getElem?]
   rw[this];exact au
end
end Go.aL
