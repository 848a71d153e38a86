/- The AV calculus, part G: code, loops, the beginning and the end of a call. Conditions: none. -/
import Derived.Test.YtmkpmgfieagphaaGreatDoorQSMf
namespace Go.aL
open Go
def lift(E:Entry)(G:aY)(Q:Exit→aM→Prop):Exit→Act→World→Prop:=fun e a w=>∃s,Q e s∧Rel E G s a w
def bW(P:Program)(G:aY)(c:Code)(Q:Exit→aM→Prop)(s:aM):Prop:=∀E a w,Rel E G s a w→c.wp P (lift E G Q) a w
def cm(P:Program)(G:aY)(ops:Array Oper)(Q:Exit→aM→Prop)(l:List Oper)(s:aM):Prop:=∀E a w,Rel E G s a w→wpList P ops (lift E G Q) l a w
section
variable {P:Program} {G:aY} {Q:Exit→aM→Prop} {s:aM}
theorem bW.region{id:Nat}{l:List Oper}(h:cm P G l.toArray Q l s):bW P G (.region id l.toArray false) Q s:=fun E a w af=>wp_region_lit (h E a w af)
theorem cm.nil{ops:Array Oper}(h:Q .normal s):cm P G ops Q [] s:=fun _ _ _ af=>wpList_nil ⟨s,h,af⟩
theorem cm.cons{ops:Array Oper}{o:Oper}{rest:List Oper}{bh:aM}(ag:o.guard=none)(h:ee P G o s bh)(k:cm P G ops Q rest bh):cm P G ops Q (o::rest) s:=
 fun E a w af=>wpList_plain ag fun _ hK=>h E a w af _ _ fun a6 w' dS=>hK a6 w' (k E a6 w' dS)
def l5(ops:Array Oper)(j:Nat):Option Nat:=(ops[j]?).bind (·.dst)
theorem G3{ops:Array Oper}{E:Entry}{a:Act}{w:World}(af:Rel E G s a w){j d:Nat}(ai:l5 ops j=some d){b:Bool}(hd:s.cC[d]? =some (.au (.v (.bool b)))):yielded ops a.tmps j=some b:=by
 obtain⟨β,ro,h⟩:=af
 have ah:=bp.val (h.slot d _ hd)
 have bA:d<a.tmps.size:=by rw[h.size];exact(List.getElem?_eq_some_iff.1 hd).1
 unfold l5 at ai
 unfold yielded
 rw[ai]
 simp only[Option.bind_some]
 simp[bA]at ah
 simp[bA,ah]
theorem N4{ops:Array Oper}{E:Entry}{a:Act}{w:World}(af:Rel E G s a w){j d:Nat}(ai:l5 ops j=some d){cs:List aD}(hd:s.cC[d]? =some (.tuple cs)):yielded ops a.tmps j=none:=by
 obtain⟨β,ro,h⟩:=af
 have ah:=h.slot d _ hd
 have bA:d<a.tmps.size:=by rw[h.size];exact(List.getElem?_eq_some_iff.1 hd).1
 unfold l5 at ai
 unfold yielded
 rw[ai]
 simp only[Option.bind_some]
 simp[bA]at ah
 generalize a.tmps[d]=c at ah
 have aJ:a.tmps[d]? =some a.tmps[d]:=by simp[bA]
 have ah:=h.slot d _ hd
 simp[bA]at ah
 cases e1:a.tmps[d]with
 |tuple x=>simp[aJ,e1]
 |_=>rw[e1]at ah;cases ah
theorem cm.guarded{ops:Array Oper}{o:Oper}{rest:List Oper}{bh:aM}{j d:Nat}{b:Bool}(ag:o.guard=some (j,b))(ai:l5 ops j=some d)(hd:s.cC[d]? =some (.au (.v (.bool b))))
 (h:ee P G o s bh)(k:cm P G ops Q rest bh):cm P G ops Q (o::rest) s:=
 fun E a w af=>wpList_step fun _ hK=>by
  have ax:=G3 af ai hd
  simp only[Region.wanted,ag,ax,beq_self_eq_true,if_true];exact h E a w af _ _ fun a6 w' dS=>hK a6 w' (k E a6 w' dS)
theorem Rel.BE{E:Entry}{a:Act}{w:World}(af:Rel E G s a w)(dst:Option Nat):Rel E G (s.put dst (.tuple [])) (a.put dst undef) w:=by
 obtain⟨β,ro,h⟩:=af
 exact⟨β,ro,h.put dst _ _ (.tuple _ _ rfl (by simp))⟩
theorem cm.W8{ops:Array Oper}{o:Oper}{rest:List Oper}{j d:Nat}{b:Bool}(ag:o.guard=some (j,b))(ai:l5 ops j=some d)(hd:s.cC[d]? =some (.au (.v (.bool (!b)))))
 (k:cm P G ops Q rest (s.put o.dst (.tuple []))):cm P G ops Q (o::rest) s:=
 fun E a w af=>by
  have ax:=G3 af ai hd
  refine wpList_skip ?_ (k E _ w (af.BE o.dst))
  simp only[Region.wanted,ag,ax]
  cases b<;>rfl
theorem cm.W9{ops:Array Oper}{o:Oper}{rest:List Oper}{j d:Nat}{b:Bool}(ag:o.guard=some (j,b))(ai:l5 ops j=some d){cs:List aD}(hd:s.cC[d]? =some (.tuple cs))
 (k:cm P G ops Q rest (s.put o.dst (.tuple []))):cm P G ops Q (o::rest) s:=
 fun E a w af=>by
  have ax:=N4 af ai hd
  refine wpList_skip ?_ (k E _ w (af.BE o.dst))
  simp only[Region.wanted,ag,ax]
  cases b<;>rfl
def Xa(P:Program)(G:aY)(c:Code)(Q:Exit→aM→Prop):Exit→aM→Prop
 | .normal,s=>bW P G c Q s
 |e,s=>Q e s
theorem bW.seq{x y:Code}(h:bW P G x (Xa P G y Q) s):bW P G (.seq x y) Q s:=fun E a w af=>by
 refine wp_seq (wp_mono (h E a w af) fun e a6 w' aJ=>?_)
 obtain⟨bh,aa,ae⟩:=aJ
 cases e with
 |normal=>exact aa E a6 w' ae
 |_=>exact⟨bh,aa,ae⟩
theorem bW.cond{x:Operand}{c d:Code}{b:Bool}(hx:aI G s x= .au (.v (.bool b)))(aG:b=true→bW P G c Q s)(hf:b=false→bW P G d Q s):bW P G (.cond x c d) Q s:=fun E a w af=>by
 obtain⟨β,ro,h⟩:=af
 exact wp_cond_split (h.en hx) (fun e=>aG e E a w ⟨β,ro,h⟩) (fun e=>hf e E a w ⟨β,ro,h⟩)
theorem bW.N5{x:Operand}{c d:Code}(hx:aI G s x= .au (.v (.bool true)))(aG:bW P G c Q s):bW P G (.cond x c d) Q s:=bW.cond hx (fun _=>aG) (fun h=>by cases h)
theorem bW.N6{x:Operand}{c d:Code}(hx:aI G s x= .au (.v (.bool false)))(hf:bW P G d Q s):bW P G (.cond x c d) Q s:=bW.cond hx (fun h=>by cases h) (fun _=>hf)
theorem bW.skip(h:Q .normal s):bW P G .skip Q s:=fun _ _ _ af=>wp_skip ⟨s,h,af⟩
theorem bW.ret(h:Q .ret s):bW P G .ret Q s:=fun _ _ _ af=>wp_ret ⟨s,h,af⟩
theorem bW.exit{id:Nat}(h:Q (.exit id) s):bW P G (.exit id) Q s:=fun _ _ _ af=>wp_exit ⟨s,h,af⟩
theorem bW.mono{c:Code}{Q':Exit→aM→Prop}(h:bW P G c Q s)(aJ: ∀e s,Q e s→Q' e s):bW P G c Q' s:=fun E a w af=>
 wp_mono (h E a w af) fun e _ _ ⟨bh,aa,ae⟩=>⟨bh,aJ e bh aa,ae⟩
def N7(id:Nat)(Q:Exit→aM→Prop):Exit→aM→Prop
 | .exit gJ,s=>bif Nat.beq gJ id then Q .normal s else Q (.exit gJ) s
 |e,s=>Q e s
theorem bW.block{id:Nat}{c:Code}(h:bW P G c (N7 id Q) s):bW P G (.block id c) Q s:=fun E a w af=>by
 refine wp_block (wp_mono (h E a w af) fun e a6 w' aJ=>?_)
 obtain⟨bh,aa,ae⟩:=aJ
 cases e with
 |exit gJ=>
  simp only[N7,Exit.inBlock]at*
  split
  ·rename_i he
   have ad:Nat.beq gJ id=true:=by simpa using he
   rw[ad]at aa;exact⟨bh,aa,ae⟩
  ·rename_i he
   have ad:Nat.beq gJ id=false:=by
    cases aJ:Nat.beq gJ id with
    |false=>rfl
    |true=>exact absurd (Nat.eq_of_beq_eq_true aJ) he
   rw[ad]at aa;exact⟨bh,aa,ae⟩
 |_=>exact⟨bh,aa,ae⟩
def cL(s bh:aM):Prop:=∀E (G:aY) a w,Rel E G s a w→Rel E G bh a w
theorem cL.refl(s:aM):cL s s:=fun _ _ _ _ h=>h
theorem cL.trans{s bh N8:aM}(h:cL s bh)(k:cL bh N8):cL s N8:=fun E G a w af=>k E G a w (h E G a w af)
theorem bW.le{c:Code}{bh:aM}(h:cL s bh)(k:bW P G c Q bh):bW P G c Q s:=fun E a w af=>k E a w (h E G a w af)
theorem cm.le{ops:Array Oper}{l:List Oper}{bh:aM}(h:cL s bh)(k:cm P G ops Q l bh):cm P G ops Q l s:=fun E a w af=>k E a w (h E G a w af)
theorem bW.loop{ι:Type}(st:ι→aM)(inv:ι→Prop)(mu:ι→Nat){c:Code}(x:ι)(aS:cL s (st x))(hi:inv x)
    (round: ∀x,inv x→bW P G c (fun e bh=>match e with
      | .normal=>∃y,inv y∧mu y<mu x∧cL bh (st y)
      |e=>Q e bh) (st x)):bW P G (.loop c) Q s:=fun E a w af=>by
  have key: ∀n x,mu x=n→inv x→∀a w,Rel E G (st x) a w→(Code.loop c).wp P (lift E G Q) a w:=by
    intro n x hn hx a w af;refine wp_loop (fun a w=>∃y,inv y∧Rel E G (st y) a w) (fun a w=>Classical.epsilon fun m=>∃y,inv y∧Rel E G (st y) a w∧mu y=m∧∀z,inv z→Rel E G (st z) a w→m≤mu z) ⟨x,hx,af⟩ ?_
    intro a w ⟨dX,BD,Xb⟩
    have hex: ∃m,∃y,inv y∧Rel E G (st y) a w∧mu y=m∧∀z,inv z→Rel E G (st z) a w→m≤mu z:=by
      have: ∀k y,mu y=k→inv y→Rel E G (st y) a w→∃m,∃y,inv y∧Rel E G (st y) a w∧mu y=m∧∀z,inv z→Rel E G (st z) a w→m≤mu z:=by
        intro k
        induction k using Nat.strongRecOn with
        |_ k aQ=>
          intro y aj ax yo
          by_cases qI: ∀z,inv z→Rel E G (st z) a w→mu y≤mu z
          · exact⟨mu y,y,ax,yo,rfl,qI⟩
          · simp only[Classical.not_forall]at qI
            obtain⟨z,br,l6,bA⟩:=qI;exact aQ (mu z) (by omega) z rfl br l6
      exact this _ dX rfl BD Xb
    obtain⟨y,ax,yo,Xc,_⟩:=Classical.epsilon_spec hex;refine wp_mono (round y ax E a w yo) fun e a6 w' aJ=>?_
    obtain⟨bh,aa,ae⟩:=aJ
    cases e with
    |normal=>
      obtain⟨z,br,bA,hle⟩:=aa
      have l6:=hle E G a6 w' ae
      refine⟨⟨z,br,l6⟩,?_⟩
      have Xd: ∃m,∃y,inv y∧Rel E G (st y) a6 w'∧mu y=m∧∀z,inv z→Rel E G (st z) a6 w'→m≤mu z:=by
        have: ∀k y,mu y=k→inv y→Rel E G (st y) a6 w'→∃m,∃y,inv y∧Rel E G (st y) a6 w'∧mu y=m∧∀z,inv z→Rel E G (st z) a6 w'→m≤mu z:=by
          intro k
          induction k using Nat.strongRecOn with
          |_ k aQ=>
            intro y aj ax yo
            by_cases qI: ∀z,inv z→Rel E G (st z) a6 w'→mu y≤mu z
            · exact⟨mu y,y,ax,yo,rfl,qI⟩
            · simp only[Classical.not_forall]at qI
              obtain⟨z,br,l6,bA⟩:=qI;exact aQ (mu z) (by omega) z rfl br l6
        exact this _ z rfl br l6
      obtain⟨_,_,_,_,qI⟩:=Classical.epsilon_spec Xd
      have aq:=qI z br l6
      rw[←Xc];exact Nat.lt_of_le_of_lt aq bA
    |_=>exact⟨bh,aa,ae⟩
  exact key _ x rfl hi a w (aS E G a w af)
end
def dI(P:Program)(G:aY)(f:FuncId)(args:List aD)(σ:bz)(n:Nat)(Q:aD→bz→Prop):Prop:=
 ∀w β ro (eI:Array Value),eI.size=args.length→(∀i x,args[i]? =some x→bp w ro σ β n x (eI.getD i undef))→hl w ro σ β n→p2 w ro G→(∀id o,aE σ id=some o→id<n)→
  Calls P f eI w fun e w'=>∃v r e8 dR ro' cO,e= .returned v∧Q r e8∧bp w' ro' e8 dR cO r v∧hl w' ro' e8 dR cO∧Trans ⟨w,ro,σ,β,n⟩ w' ro' e8 dR cO
def mQ(P:Program)(s:aM):List ResultVar→Option (List aD)
 |[]=>some []
 | .tmp t::r=>match mQ P s r with
  |some l=>some (s.cC.getD t .top::l)
  |none=>none
 | .cell p t::r=>match mQ P s r,fc s.heap (s.cC.getD p .top)with
  |some l,some cs=>match l2 P t with
   |some n=>if n≤cs.length∧0<n then some (.agg (cs.take n)::l)else none
   |none=>if scalar P t then match cs with
    |y::_=>some (y::l)
    |[]=>none
    else none
  |_,_=>none
def yp(P:Program)(fn:Func)(s:aM):Option aD:=
 match mQ P s fn.results.toList with
 |some [x]=>some x
 |some l=>some (.tuple l)
 |none=>none
def Xe(P:Program)(fn:Func)(Q:aD→bz→Prop):Exit→aM→Prop:=fun e s=>
 (e= .normal∨e= .ret)∧∃r e8,yp P fn s=some r∧(∀id o,aE e8 id=some o→aE s.heap id=some o)∧Q r e8
theorem hl.sub{w:World}{ro:Nat→Prop}{σ e8:bz}{β:Nat→Value}{N:Nat}(h:hl w ro σ β N)(ah: ∀id o,aE e8 id=some o→aE σ id=some o):hl w ro e8 β N:=by
 refine⟨fun id o ag=>(h.c4 id o (ah id o ag)).keep (fun _ _=>rfl) (fun _ h=>h) (Nat.le_refl _) (Nat.le_refl _) rfl (fun _ _ _=>rfl) (fun id t cs ag=>⟨rfl,t,cs,ah id _ ag⟩) (fun id z t n es ag=>⟨rfl,z,t,es,ah id _ ag⟩) (fun id bE ag=>⟨rfl,bE,ah id _ ag⟩),
  fun id gJ o cl b aa ae=>h.inj id gJ o cl b (ah id o aa) (ah gJ cl ae),fun b ad ⟨id,o,ag,ao,a7⟩=>h.ft b ad ⟨id,o,ah id o ag,ao,a7⟩,h.lt⟩
theorem bp.sub{w:World}{ro:Nat→Prop}{σ e8:bz}{β:Nat→Value}{N:Nat}{x:aD}{c:Value}(h:bp w ro σ β N x c)(ah: ∀id o,aE e8 id=some o→aE σ id=some o):bp w ro e8 β N x c:=
 h.keep (fun _ _=>rfl) (fun _ h=>h) (Nat.le_refl _) (fun id t cs ag=>⟨rfl,t,cs,ah id _ ag⟩) (fun id z t _ es ag=>⟨rfl,z,t,es,ah id _ ag⟩) (fun id bE ag=>⟨rfl,bE,ah id _ ag⟩)
theorem Trans.sub{E:Entry}{w:World}{ro:Nat→Prop}{σ e8:bz}{β:Nat→Value}{n:Nat}(h:Trans E w ro σ β n)(ah: ∀id o,aE e8 id=some o→aE σ id=some o):Trans E w ro e8 β n:=
 ⟨h.os,h.tape,h.output,h.size,h.frame,h.iM,h.jL,fun b ⟨id,o,ag,ao,a7⟩=>h.gK b ⟨id,o,ah id o ag,ao,a7⟩,fun id hi o ag=>h.dE id hi o (ah id o ag),fun id o ag=>h.new id o (ah id o ag),h.le⟩
section
variable {P:Program} {G:aY}
def tV(tmps:Array Value):ResultVar→Sem Value
 | .tmp t=>pure (tmps.getD t undef)
 | .cell p t=>do
  let b ←asAddr (tmps.getD p undef)
  loadVar t b
theorem Xf(fn:Func)(tmps:Array Value):results fn tmps=(do
    let vs ←fn.results.mapM (tV tmps)
    pure (if h:vs.size=1 then vs[0]else .tuple vs)):=by
  unfold results
  have:(fun x=>match x with
      |ResultVar.tmp t=>(pure (tmps.getD t undef):Sem Value)
      |ResultVar.cell p t=>do
        let b ←asAddr (tmps.getD p undef)
        loadVar t b)=tV tmps:=by
    funext x
    cases x<;>rfl
  rw[←this];rfl
theorem G4{E:Entry}{s:aM}{a:Act}{w:World}{β:Nat→Value}{ro:Nat→Prop}(h:c6 E G s a w β ro): ∀{rs:List ResultVar} {l:List aD},mQ P s rs=some l→
 ∃vs:List Value,(rs.mapM (tV a.tmps)).run P w= .ok vs w∧vs.length=l.length∧∀j x,l[j]? =some x→bp w ro s.heap β s.next x (vs.getD j undef)
 |[],l,ao=>by
  simp[mQ]at ao;subst ao;exact⟨[],by simp,rfl,by simp⟩
 | .tmp t::r,l,ao=>by
  simp only[mQ]at ao
  cases af:mQ P s r with
  |none=>simp[af]at ao
  |some hG=>
   simp only[af,Option.some.injEq]at ao;subst ao;obtain⟨vs,aa,ae,aq⟩:=G4 h af;refine⟨a.tmps.getD t undef::vs,by simp only[List.mapM_cons,Sem.run_bind,tV,Sem.run_pure,Result.andThen_ok,aa],by simp[ae],fun j x ai=>?_⟩
   cases j with
   |zero=>
    simp at ai;subst ai;exact h.eval (.tmp t)
   |succ j=>exact aq j x ai
 | .cell p t::r,l,ao=>by
  simp only[mQ]at ao
  cases af:mQ P s r with
  |none=>simp[af]at ao
  |some hG=>
   cases hc:fc s.heap (s.cC.getD p .top)with
   |none=>rw[af,hc]at ao;cases ao
   |some cs=>
    rw[af,hc]at ao;simp only at ao;obtain⟨vs,aa,ae,aq⟩:=G4 h af
    have ky:=h.eval (.tmp p)
    simp only[aI,Act.eval]at ky
    cases bF:l2 P t with
    |some n=>
     simp only[bF]at ao
     split at ao
     ·rename_i hn
      simp only[Option.some.injEq]at ao;subst ao;obtain⟨cP,tW,f,hf⟩:=vD h.heap hc ky (by intro e;subst e;simp at hn;omega)
      obtain⟨g1,g2⟩:=Bx bF w
      have l7:=run_loadCells (P:=P) w cP n f (fun j ai=>(hf j (cs[j]'(by omega)) (by simp)).1)
      refine⟨.agg ((List.range n).map f).toArray::vs,?_,by simp[ae],fun j x ai=>?_⟩
      ·simp only[List.mapM_cons,Sem.run_bind,tV,tW,asAddr,Sem.run_pure,Result.andThen_ok,loadVar,g1,g2,if_true,l7,aa]
      ·cases j with
       |zero=>
        simp at ai;subst ai;refine .agg _ _ (by simp;omega) fun j y ai=>?_
        rw[List.getElem?_take]at ai
        split at ai
        ·have:=(hf j y ai).2
         rename_i oh;simpa[oh]using this
        ·cases ai
       |succ j=>exact aq j x ai
     ·cases ao
    |none=>
     simp only[bF]at ao
     split at ao
     ·rename_i hsc
      cases cs with
      |nil=>simp at ao
      |cons y cs'=>
       simp only[Option.some.injEq]at ao;subst ao;obtain⟨cP,tW,f,hf⟩:=vD h.heap hc ky (by simp)
       have g1:=yd hsc w
       obtain⟨k2,dk⟩:=hf 0 y rfl;rw[show cP.add 0=cP from by simp[Addr.add]]at k2
       refine⟨f 0::vs,?_,by simp[ae],fun j x ai=>?_⟩
       ·simp only[List.mapM_cons,Sem.run_bind,tV,tW,asAddr,Sem.run_pure,Result.andThen_ok,loadVar,g1]
        simp[run_load,k2,aa]
       ·cases j with
        |zero=>simp at ai;subst ai;exact dk
        |succ j=>exact aq j x ai
     ·cases ao
theorem Xg{E:Entry}{s:aM}{a:Act}{w:World}{β:Nat→Value}{ro:Nat→Prop}(h:c6 E G s a w β ro){fn:Func}{r:aD}(af:yp P fn s=some r):
 ∃v,(results fn a.tmps).run P w= .ok v w∧bp w ro s.heap β s.next r v:=by
 unfold yp at af
 cases aK:mQ P s fn.results.toList with
 |none=>simp[aK]at af
 |some l=>
  rw[aK]at af;obtain⟨vs,aa,ae,aq⟩:=G4 h aK
  have hm:(fn.results.mapM (tV a.tmps)).run P w= .ok vs.toArray w:=by
   rw[Array.mapM_eq_mapM_toList];simp only[Sem.run_map,aa]
   first|rfl|simp
  have qJ:(results fn a.tmps).run P w= .ok (if h:vs.toArray.size=1 then vs.toArray[0]else .tuple vs.toArray) w:=by
   rw[Xf,Sem.run_bind,hm];rfl
  refine⟨_,qJ,?_⟩
  match l,aK,af,ae,aq with
  |[x],_,af,ae,aq=>
   injection af with af
   subst af
   have AH:vs.toArray.size=1:=by simpa using ae
   rw[dif_pos AH]
   have:=aq 0 x rfl
   have N9:0<vs.length:=by simp at AH;omega
   simpa[List.getD,N9]using this
  |[],_,af,ae,aq=>
   injection af with af
   subst af
   have:vs=[]:=List.eq_nil_of_length_eq_zero (by simpa using ae)
   subst this;exact .tuple _ _ rfl (by simp)
  |x::y::hG,_,af,ae,aq=>
   injection af with af
   subst af;rw[dif_neg (by simp at ae⊢;omega)]
   refine .tuple _ _ (by simpa using ae) fun j z ai=>?_
   have:=aq j z ai
   simpa[List.getD,Array.getD_eq_getD_getElem?]using this
theorem dI.Xh{f:FuncId}{fn:Func}{c:Code}{args:List aD}{σ:bz}{n k:Nat}{Q:aD→bz→Prop}(hf:P.funcs[f]? =some fn)(ad:fn.body=some c)(aj:fn.ntmps-args.length=k)
 (h:bW P G c (Xe P fn Q) ⟨args++List.replicate k .top,σ,n,n⟩):dI P G f args σ n Q:=by
 intro w β ro eI bJ h7 a8 ag bA
 refine calls_of_wp hf ad (wp_mono (h ⟨w,ro,σ,β,n⟩ _ w ⟨β,ro,rfl,?_,?_,a8,ag,?_,Nat.le_refl _⟩) ?_)
 ·simp[bJ,aj]
 ·intro i x hi
  simp only at hi
  by_cases G5:i<args.length
  ·rw[List.getElem?_append_left G5]at hi
   have:=h7 i x hi
   have aa:i<eI.size:=by omega
   simpa[Array.getElem?_append_left aa,aa,Array.getElem_append_left aa]using this
  ·rw[List.getElem?_append_right (by omega)]at hi
   rw[List.getElem?_replicate]at hi
   split at hi
   ·simp only[Option.some.injEq]at hi;subst hi;exact .top _
   ·cases hi
 ·exact⟨rfl,rfl,rfl,Nat.le_refl _,fun _ _ _=>rfl,fun _ h=>.inl h,fun _ h=>h,fun _ h=>.inl h,fun id _ o an=>⟨by rw[an];simp,rfl⟩,bA,Nat.le_refl _⟩
 ·intro e a6 w' ⟨bh,aJ,dR,ro',af⟩
  obtain⟨he,r,e8,qJ,gb,ef⟩:=aJ;obtain⟨v,av,dk⟩:=Xg af qJ
  rcases he with rfl|rfl
  ·exact⟨af.defers,v,av,v,r,e8,dR,ro',bh.next,rfl,ef,dk.sub gb,af.heap.sub gb,af.trans.sub gb⟩
  ·exact⟨af.defers,v,av,v,r,e8,dR,ro',bh.next,rfl,ef,dk.sub gb,af.heap.sub gb,af.trans.sub gb⟩
end
end Go.aL
namespace Go.aL
open Go
mutual
def gd(n:Nat):aD→Bool
 | .au _=>true
 | .agg cs=>k4 n cs
 | .tuple cs=>k4 n cs
 | .ptr id _=>decide (id<n)
 | .dB id _=>decide (id<n)
 | .cE id _ _=>decide (id<n)
 | .aN id=>decide (id<n)
 | .fn _ p q=>k4 n p&&k4 n q
 | .ref id=>decide (id<n)
 | .top=>true
def k4(n:Nat):List aD→Bool
 |[]=>true
 |x::r=>gd n x&&k4 n r
end
theorem qK{n:Nat}: ∀{cs:List aD},k4 n cs=true→∀{j:Nat} {x:aD},cs[j]? =some x→gd n x=true
 |[],_,j,x,h=>by simp at h
 |y::r,ad,j,x,h=>by
  simp only[k4,Bool.and_eq_true]at ad
  cases j with
  |zero=>simp at h;subst h;exact ad.1
  |succ j=>simp at h;exact qK ad.2 h
theorem bp.lower{w:World}{ro:Nat→Prop}{σ:bz}{β:Nat→Value}{N od:Nat}{x:aD}{c:Value}(h:bp w ro σ β N x c)(ad:gd od x=true):bp w ro σ β od x c:=by
 induction h with
 |au x c hx=>exact .au x c hx
 |agg cs c ah _ aQ=>
  simp only[gd]at ad;exact .agg cs c ah fun j x ai=>aQ j x ai (qK ad ai)
 |tuple cs c ah _ aQ=>
  simp only[gd]at ad;exact .tuple cs c ah fun j x ai=>aQ j x ai (qK ad ai)
 |ptr id off c ao ak=>exact .ptr id off c (by simpa[gd]using ad) ak
 |dB id off c ao ak=>exact .dB id off c (by simpa[gd]using ad) ak
 |cE id i off c ao ak=>exact .cE id i off c (by simpa[gd]using ad) ak
 |aN id c ao ak=>exact .aN id c (by simpa[gd]using ad) ak
 |fn f p q c d aa ae _ _ gL gM=>
  simp only[gd,Bool.and_eq_true]at ad;exact .fn f p q c d aa ae (fun j x ai=>gL j x ai (qK ad.1 ai)) (fun j x ai=>gM j x ai (qK ad.2 ai))
 |ref id c ao ak=>exact .ref id c (by simpa[gd]using ad) ak
 |top c=>exact .top c
def vI(σ:bz):List Nat→bz
 |[]=>[]
 |id::r=>match aE σ id with
  |some o=>(id,o)::vI σ r
  |none=>vI σ r
theorem G6(σ:bz): ∀(ids:List Nat) (id:Nat) (o:ej),aE (vI σ ids) id=some o→aE σ id=some o
 |[],id,o,h=>by simp[vI,aE]at h
 |k::r,id,o,h=>by
  simp only[vI]at h
  cases aj:aE σ k with
  |none=>rw[aj]at h;exact G6 σ r id o h
  |some p=>
   rw[aj]at h;simp only[aE]at h
   split at h
   ·rename_i he
    subst he;rw[aj];exact h
   ·exact G6 σ r id o h
def k5(n:Nat):bz→Bool
 |[]=>true
 |(id,.box _ cs)::r=>decide (id<n)&&k4 n cs&&k5 n r
 |(id,.row _ _ _ _)::r=>decide (id<n)&&k5 n r
 |(id,.bY _)::r=>decide (id<n)&&k5 n r
theorem qL{n:Nat}: ∀{σ:bz},k5 n σ=true→∀{id:Nat} {o:ej},aE σ id=some o→id<n∧∀t cs,o= .box t cs→k4 n cs=true
 |[],_,id,o,h=>by simp[aE]at h
 |(k,.box t cs)::r,ad,id,o,h=>by
  simp only[k5,Bool.and_eq_true,decide_eq_true_eq]at ad;simp only[aE]at h
  split at h
  ·rename_i he
   subst he;simp only[Option.some.injEq]at h;subst h;exact⟨ad.1.1,fun bs cs' he=>by cases he;exact ad.1.2⟩
  ·exact qL ad.2 h
 |(k,.row z t m es)::r,ad,id,o,h=>by
  simp only[k5,Bool.and_eq_true,decide_eq_true_eq]at ad;simp only[aE]at h
  split at h
  ·rename_i he
   subst he;simp only[Option.some.injEq]at h;subst h;exact⟨ad.1,fun bs cs' he=>by cases he⟩
  ·exact qL ad.2 h
 |(k,.bY bE)::r,ad,id,o,h=>by
  simp only[k5,Bool.and_eq_true,decide_eq_true_eq]at ad;simp only[aE]at h
  split at h
  ·rename_i he
   subst he;simp only[Option.some.injEq]at h;subst h;exact⟨ad.1,fun bs cs' he=>by cases he⟩
  ·exact qL ad.2 h
mutual
def mR(σ:bz):aD→aD
 | .aN id=>match aE σ id with
  |some (.row true _ n es)=>.au (.aN n es)
  |_=>.aN id
 | .agg cs=>.agg (l8 σ cs)
 | .tuple cs=>.tuple (l8 σ cs)
 | .fn f p q=>.fn f (l8 σ p) (l8 σ q)
 | .au x=>.au x
 | .ptr id off=>.ptr id off
 | .dB id off=>.dB id off
 | .cE id i off=>.cE id i off
 | .ref id=>.ref id
 | .top=>.top
def l8(σ:bz):List aD→List aD
 |[]=>[]
 |x::r=>mR σ x::l8 σ r
end
theorem ov(σ:bz): ∀(l:List aD),(l8 σ l).length=l.length
 |[]=>rfl
 |x::r=>by simp[l8,ov σ r]
theorem ow(σ:bz): ∀{l:List aD} {j:Nat} {x:aD},(l8 σ l)[j]? =some x→∃y,l[j]? =some y∧x=mR σ y
 |[],j,x,h=>by simp[l8]at h
 |y::r,j,x,h=>by
  cases j with
  |zero=>simp[l8]at h;exact⟨y,by simp,h.symm⟩
  |succ j=>simp[l8]at h;simpa using ow σ h
theorem Xi{w:World}{ro:Nat→Prop}{σ:bz}{β:Nat→Value}{N:Nat}(a8:hl w ro σ β N){x:aD}{c:Value}(h:bp w ro σ β N x c):bp w ro σ β N (mR σ x) c:=by
 induction h with
 |aN id c ao ak=>
  simp only[mR]
  split
  ·rename_i t n es ag
   rw[ak true t n es ag]
   have:=a8.c4 id _ ag
   cases this with
   |fQ _ _ _ aa=>exact .au _ _ aa
  ·exact .aN id c ao ak
 |au x c h=>exact .au x c h
 |agg cs c aa _ aQ=>
  refine .agg _ c (by rw[ov];exact aa) fun j x ai=>?_
  obtain⟨y,ax,rfl⟩:=ow σ ai;exact aQ j y ax
 |tuple cs c aa _ aQ=>
  refine .tuple _ c (by rw[ov];exact aa) fun j x ai=>?_
  obtain⟨y,ax,rfl⟩:=ow σ ai;exact aQ j y ax
 |ptr id off c aa ae=>exact .ptr id off c aa ae
 |dB id off c aa ae=>exact .dB id off c aa ae
 |cE id i off c aa ae=>exact .cE id i off c aa ae
 |fn f p q c d aa ae _ _ gL gM=>
  refine .fn f _ _ c d (by rw[ov];exact aa) (by rw[ov];exact ae) (fun j x ai=>?_) (fun j x ai=>?_)
  ·obtain⟨y,ax,rfl⟩:=ow σ ai
   exact gL j y ax
  ·obtain⟨y,ax,rfl⟩:=ow σ ai
   exact gM j y ax
 |ref id c aa ae=>exact .ref id c aa ae
 |top c=>exact .top c
mutual
def ff:aD→Bool
 | .au _=>true
 | .agg cs=>eL cs
 | .tuple cs=>eL cs
 | .fn _ p q=>eL p&&eL q
 | .top=>true
 | .ptr _ _=>false
 | .dB _ _=>false
 | .cE _ _ _=>false
 | .aN _=>false
 | .ref _=>false
def eL:List aD→Bool
 |[]=>true
 |x::r=>ff x&&eL r
end
theorem mS: ∀{cs:List aD},eL cs=true→∀{j:Nat} {x:aD},cs[j]? =some x→ff x=true
 |[],_,j,x,h=>by simp at h
 |y::r,ad,j,x,h=>by
  simp only[eL,Bool.and_eq_true]at ad
  cases j with
  |zero=>simp at h;subst h;exact ad.1
  |succ j=>simp at h;exact mS ad.2 h
theorem BF(l:List bd):eL (l.map .au)=true:=by
 induction l with
 |nil=>rfl
 |cons x r aQ=>simp[eL,ff,aQ]
theorem nG{w:World}{ro:Nat→Prop}{σ bO:bz}{β yq:Nat→Value}{N M:Nat}{x:aD}{c:Value}(h:bp w ro σ β N x c)(ak:ff x=true):bp w ro bO yq M x c:=by
 induction h with
 |au x c h=>exact .au x c h
 |agg cs c aa _ aQ=>
  simp only[ff]at ak;exact .agg cs c aa fun j x ai=>aQ j x ai (mS ak ai)
 |tuple cs c aa _ aQ=>
  simp only[ff]at ak;exact .tuple cs c aa fun j x ai=>aQ j x ai (mS ak ai)
 |fn f p q c d aa ae _ _ gL gM=>
  simp only[ff,Bool.and_eq_true]at ak;exact .fn f p q c d aa ae (fun j x ai=>gL j x ai (mS ak.1 ai)) (fun j x ai=>gM j x ai (mS ak.2 ai))
 |top c=>exact .top c
 |ptr=>simp[ff]at ak
 |dB=>simp[ff]at ak
 |cE=>simp[ff]at ak
 |aN=>simp[ff]at ak
 |ref=>simp[ff]at ak
mutual
def pw(d:Nat):aD→aD
 | .au x=>.au x
 | .agg cs=>.agg (lD d cs)
 | .tuple cs=>.tuple (lD d cs)
 | .ptr id off=>.ptr (d+id) off
 | .dB id off=>.dB (d+id) off
 | .cE id i off=>.cE (d+id) i off
 | .aN id=>.aN (d+id)
 | .fn f p q=>.fn f (lD d p) (lD d q)
 | .ref id=>.ref (d+id)
 | .top=>.top
def lD(d:Nat):List aD→List aD
 |[]=>[]
 |x::r=>pw d x::lD d r
end
def k6(d:Nat):bz→bz
 |[]=>[]
 |(id,.box t cs)::r=>(d+id,.box t (lD d cs))::k6 d r
 |(id,.row z t n es)::r=>(d+id,.row z t n es)::k6 d r
 |(id,.bY bE)::r=>(d+id,.bY bE)::k6 d r
def kz(d:Nat):ej→ej
 | .box t cs=>.box t (lD d cs)
 | .row z t n es=>.row z t n es
 | .bY bE=>.bY bE
theorem vJ(d:Nat): ∀(l:List aD),(lD d l).length=l.length
 |[]=>rfl
 |x::r=>by simp[lD,vJ d r]
theorem vK(d:Nat): ∀{l:List aD} {j:Nat} {x:aD},(lD d l)[j]? =some x→∃y,l[j]? =some y∧x=pw d y
 |[],j,x,h=>by simp[lD]at h
 |y::r,j,x,h=>by
  cases j with
  |zero=>simp[lD]at h;exact⟨y,by simp,h.symm⟩
  |succ j=>simp[lD]at h;simpa using vK d h
theorem Oa(σ bO:bz)(id:Nat):aE (σ++bO) id=(aE σ id).or (aE bO id):=by
 induction σ with
 |nil=>simp[aE]
 |cons p r aQ=>
  obtain⟨k,o⟩:=p;simp only[List.cons_append,aE]
  split
  ·simp
  ·exact aQ
theorem yr(d:Nat): ∀(σ:bz) (id:Nat),aE (k6 d σ) id=if d≤id then(aE σ (id-d)).map (kz d)else none
 |[],id=>by simp[k6,aE]
 |(k,.box t cs)::r,id=>by
  simp only[k6,aE,yr d r]
  by_cases aa:d+k=id
  ·have ae:d≤id:=by omega
   have aq:k=id-d:=by omega
   simp[ae,aq,kz]
  ·by_cases ae:d≤id
   ·have aq: ¬k=id-d:=by omega
    simp[aa,ae,aq]
   ·simp[aa,ae]
 |(k,.row z t n es)::r,id=>by
  simp only[k6,aE,yr d r]
  by_cases aa:d+k=id
  ·have ae:d≤id:=by omega
   have aq:k=id-d:=by omega
   simp[ae,aq,kz]
  ·by_cases ae:d≤id
   ·have aq: ¬k=id-d:=by omega
    simp[aa,ae,aq]
   ·simp[aa,ae]
 |(k,.bY bE)::r,id=>by
  simp only[k6,aE,yr d r]
  by_cases aa:d+k=id
  ·have ae:d≤id:=by omega
   have aq:k=id-d:=by omega
   simp[ae,aq,kz]
  ·by_cases ae:d≤id
   ·have aq: ¬k=id-d:=by omega
    simp[aa,ae,aq]
   ·simp[aa,ae]
theorem bp.shift{w:World}{ro ro':Nat→Prop}{σ bO:bz}{β yq:Nat→Value}{N M:Nat}{x:aD}{c:Value}(h:bp w ro σ β N x c)(b6: ∀b,ro b→ro' b)
 (G7: ∀id o,aE bO id=some o→id<M):
 bp w ro' (k6 M σ++bO) (fun k=>if M≤k then β (k-M)else yq k) (M+N) (pw M x) c:=by
 have key: ∀id,aE (k6 M σ++bO) (M+id)=(aE σ id).map (kz M):=by
  intro id;rw[Oa,yr]
  have aa:M≤M+id:=by omega
  simp only[aa,if_true,Nat.add_sub_cancel_left]
  cases ah:aE σ id with
  |some o=>simp
  |none=>
   simp
   cases aG:aE bO (M+id)with
   |none=>rfl
   |some o=>have:=G7 _ _ aG;omega
 induction h with
 |au x c hx=>exact .au x c (hx.keep (fun _ _=>rfl) b6)
 |agg cs c ah _ aQ=>
  refine .agg _ c (by rw[vJ];exact ah) fun j x ai=>?_
  obtain⟨y,ax,rfl⟩:=vK M ai;exact aQ j y ax
 |tuple cs c ah _ aQ=>
  refine .tuple _ c (by rw[vJ];exact ah) fun j x ai=>?_
  obtain⟨y,ax,rfl⟩:=vK M ai;exact aQ j y ax
 |ptr id off c ao ak=>
  refine .ptr _ off c (by omega) fun t cs ag=>?_
  rw[key]at ag;simp only[Nat.le_add_right,if_true,Nat.add_sub_cancel_left]
  cases ah:aE σ id with
  |none=>simp[ah]at ag
  |some o=>
   cases o with
   |box bs cs'=>exact ak bs cs' ah
   |row=>simp[ah,kz]at ag
   |bY=>simp[ah,kz]at ag
 |dB id off c ao ak=>
  refine .dB _ off c (by omega) fun t cs ag=>?_
  rw[key]at ag;simp only[Nat.le_add_right,if_true,Nat.add_sub_cancel_left]
  cases ah:aE σ id with
  |none=>simp[ah]at ag
  |some o=>
   cases o with
   |box bs cs'=>exact ak bs cs' ah
   |row=>simp[ah,kz]at ag
   |bY=>simp[ah,kz]at ag
 |cE id i off c ao ak=>
  refine .cE _ i off c (by omega) fun z t n es ag=>?_
  rw[key]at ag;simp only[Nat.le_add_right,if_true,Nat.add_sub_cancel_left]
  cases ah:aE σ id with
  |none=>simp[ah]at ag
  |some o=>
   cases o with
   |box bs cs'=>simp[ah,kz]at ag
   |bY=>simp[ah,kz]at ag
   |row h5 bs cO eu=>
    simp only[ah,Option.map_some,kz,Option.some.injEq,ej.row.injEq]at ag;obtain⟨rfl,rfl,rfl,rfl⟩:=ag;exact ak _ _ _ _ ah
 |aN id c ao ak=>
  refine .aN _ c (by omega) fun z t n es ag=>?_
  rw[key]at ag;simp only[Nat.le_add_right,if_true,Nat.add_sub_cancel_left]
  cases ah:aE σ id with
  |none=>simp[ah]at ag
  |some o=>
   cases o with
   |box bs cs'=>simp[ah,kz]at ag
   |bY=>simp[ah,kz]at ag
   |row h5 bs cO eu=>exact ak _ _ _ _ ah
 |fn f p q c d aa ae _ _ gL gM=>
  refine .fn f _ _ c d (by rw[vJ];exact aa) (by rw[vJ];exact ae) (fun j x ai=>?_) (fun j x ai=>?_)
  ·obtain⟨y,ax,rfl⟩:=vK M ai
   exact gL j y ax
  ·obtain⟨y,ax,rfl⟩:=vK M ai
   exact gM j y ax
 |ref id c ao ak=>
  refine .ref _ c (by omega) fun bE ag=>?_
  rw[key]at ag;simp only[Nat.le_add_right,if_true,Nat.add_sub_cancel_left]
  cases ah:aE σ id with
  |none=>simp[ah]at ag
  |some o=>
   cases o with
   |box=>simp[ah,kz]at ag
   |row=>simp[ah,kz]at ag
   |bY lz=>exact ak lz ah
 |top c=>exact .top c
def mT(P:Program)(f:FuncId):Bool:=
 match P.funcs[f]? with
 |some fn=>!(fn.name== "runtime.NumGoroutine")&&fn.body.isSome
 |none=>false
theorem BG{P:Program}{f:FuncId}(h:mT P f=true)(args:Array Value)(w:World):(callFunc f args).run P w= .ok (.enter f args) w:=by
 unfold mT at h
 split at h
 ·rename_i fn hf
  simp only[Bool.and_eq_true,Bool.not_eq_true']at h
  have ae:fn.body≠none:=by intro e;simp[e]at h
  have aq:fn.name≠ "runtime.NumGoroutine" :=by simpa using h.1
  simp[callFunc,hf,ae,aq]
 ·cases h
section
variable {P:Program} {G:aY} {s:aM} {Q:Exit→aM→Prop}
theorem l1.call{o:Oper}{x:Operand}{xs:Array Operand}{ts:Array TypeId}(an:o.op= .call {callee:=.value x,args:=xs,argTypes:=ts}){f:FuncId}(hx:aI G s x= .fn (.func f) [] [])
 (gf:mT P f=true){args:List aD}(h7:xs.toList.map (fun y=>mR s.heap (aI G s y))=args)(ox:eL args=true){R:aD→bz→Prop}(hc:dI P G f args [] 0 R){K:Nat}{r:aD}{bO:bz}
 (gC: ∀er fg,R er fg→er=r∧fg=bO)(G8:gd K r=true)(BH:k5 K bO=true)(ad:s.base≤s.next):
 l1 P G o s ({s with heap:=k6 s.next bO++s.heap,next:=s.next+K}.put o.dst (pw s.next r)):=by
 intro E a w ⟨β,ro,h⟩ Xj Xk G9
 have jo:=h.eval x
 rw[hx]at jo
 generalize he:a.eval x=BI at jo
 cases jo with
 |fn _ _ _ c d aa ae _ _=>
  have h3:c= #[]:=by simpa using aa
  have qM:d= #[]:=by simpa using ae
  subst h3 qM;unfold Oper.wp;simp only[execOp,an,resolve,he,Deferred.ofValue,Sem.run_bind,Sem.run_pure,Result.andThen_ok,invoke,Array.empty_append,Array.append_empty];rw[BG gf]
  have hlen:xs.toList.length=args.length:=by have:=congrArg List.length h7;simpa using this
  have gO:=hc w β ro (xs.map a.eval) (by simpa using hlen) (fun i y ax=>by
   have hi:(xs.toList.map (fun y=>mR s.heap (aI G s y)))[i]? =some y:=by rw[h7];exact ax
   rw[List.getElem?_map]at hi
   cases Ha:xs.toList[i]? with
   |none=>simp[Ha]at hi
   |some z=>
    simp[Ha]at hi
    have av:=Xi h.heap (h.eval z)
    rw[hi]at av
    have Xl:xs[i]? =some z:=by simpa using Ha
    have ky:(xs.map a.eval).getD i undef=a.eval z:=by simp[Xl]
    rw[ky]
    exact nG av (mS ox ax)) ⟨by simp[aE],by simp[aE],fun b _ ⟨_,_,ag,_⟩=>by simp[aE]at ag,h.heap.lt⟩ h.hT (by simp[aE])
  refine Calls.mono gO fun e w' aJ=>?_
  obtain⟨v,er,fg,dR,ro',cO,rfl,Xm,dk,hs,cq⟩:=aJ;obtain⟨rfl,rfl⟩:=gC er fg Xm
  have jH: ∀b,¬Own ([]:bz) β b:=fun b ⟨_,_,ag,_⟩=>by simp[aE]at ag
  have lE: ∀b,b<w.heap.size→w'.heap[b]? =w.heap[b]? :=fun b ad=>cq.frame b ad (jH b)
  have qN:=dk.lower G8
  have ga:=h.heap
  have Hb:=fun id o ag=>h.trans.new id o ag
  have b6: ∀b,ro b→w'.heap[b]? =w.heap[b]? :=fun b ad=>lE b (h.heap.lt b ad)
  have nE: ∀k p b,aE s.heap k=some p→p.live=true→cb (β k)=some b→b<w.heap.size:=fun k p b aj ak a7=>(h.heap.c4 k p aj).hk ak a7
  have BJ: ∀k p b,aE fg k=some p→p.live=true→cb (dR k)=some b→w.heap.size≤b:=by
   intro k p b aj ak a7
   rcases cq.gK b ⟨k,p,aj,ak,a7⟩with hc|hc
   ·exact absurd hc (jH b)
   ·exact hc

  have look: ∀id,aE (k6 s.next fg++s.heap) id=if s.next≤id then(aE fg (id-s.next)).map (kz s.next)else aE s.heap id:=by
   intro id;rw[Oa,yr]
   by_cases hi:s.next≤id
   ·simp only[hi,if_true]
    cases ah:aE fg (id-s.next)with
    |some p=>simp
    |none=>
     simp
     cases aG:aE s.heap id with
     |none=>rfl
     |some p=>have:=Hb _ _ aG;omega
   ·simp[hi]
  have up: ∀x c,bp w ro s.heap β s.next x c→bp w' (fun b=>ro b∨ro' b) (k6 s.next fg++s.heap) (fun k=>if s.next≤k then dR (k-s.next)else β k) (s.next+K) x c:=by
   intro x c hx
   induction hx with
   |au x c hx=>exact .au x c (hx.keep b6 fun _ h=>.inl h)
   |agg cs c ah _ aQ=>exact .agg cs c ah aQ
   |tuple cs c ah _ aQ=>exact .tuple cs c ah aQ
   |ptr k off c ao ak=>
    have aj: ¬s.next≤k:=by omega
    exact .ptr k off c (by omega) fun t cs bc=>by rw[look,if_neg aj]at bc;simp only[aj,if_false];exact ak t cs bc
   |dB k off c ao ak=>
    have aj: ¬s.next≤k:=by omega
    exact .dB k off c (by omega) fun t cs bc=>by rw[look,if_neg aj]at bc;simp only[aj,if_false];exact ak t cs bc
   |cE k i off c ao ak=>
    have aj: ¬s.next≤k:=by omega
    exact .cE k i off c (by omega) fun z t n es bc=>by rw[look,if_neg aj]at bc;simp only[aj,if_false];exact ak z t n es bc
   |aN k c ao ak=>
    have aj: ¬s.next≤k:=by omega
    exact .aN k c (by omega) fun z t n es bc=>by rw[look,if_neg aj]at bc;simp only[aj,if_false];exact ak z t n es bc
   |fn f p q c d aa ae _ _ gL gM=>exact .fn f p q c d aa ae gL gM
   |ref k c ao ak=>
    have aj: ¬s.next≤k:=by omega
    exact .ref k c (by omega) fun bE bc=>by rw[look,if_neg aj]at bc;simp only[aj,if_false];exact ak bE bc
   |top c=>exact .top c
  have Ob: ∀b,ro' b→ro b∨w.heap.size≤b:=fun b ad=>by
   rcases cq.iM b ad with h|h|h
   ·exact .inl h
   ·exact absurd h (jH b)
   ·exact .inr h
  refine G9 _ _ ⟨fun k=>if s.next≤k then dR (k-s.next)else β k,fun b=>ro b∨ro' b,c6.put (s:={s with heap:=k6 s.next fg++s.heap,next:=s.next+K}) ⟨h.defers,h.size,fun i x hx=>up _ _ (h.slot i x hx),⟨fun id p ag=>?_,?_,?_,?_⟩,?_,?_,h.base⟩ o.dst _ _ ?_⟩ lE
  ·simp only[look]at ag
   by_cases hi:s.next≤id
   ·simp only[hi,if_true]at ag
    cases ah:aE fg (id-s.next)with
    |none=>simp[ah]at ag
    |some q=>
     simp[ah]at ag;subst ag;obtain⟨_,yt⟩:=qL BH ah
     have gq:=hs.c4 _ q ah
     cases gq with
     |box t cs b arr ay aV ct eA=>
      refine .box t _ b arr (by simp[hi,ay]) aV (by rw[vJ];exact ct) fun j x ai=>?_
      obtain⟨y,ax,rfl⟩:=vK s.next ai;exact bp.shift ((eA j y ax).lower (qK (yt t cs rfl) ax)) (fun _ h=>.inr h) Hb
     |row t n es xs ay aV ct=>exact .row t n es xs (by simp only[hi,if_true];exact ay) aV fun j x ai=>(ct j x ai).keep (fun _ _=>rfl) fun _ h=>.inr h
     |fQ t n es ay=>exact .fQ t n es (by simp only[hi,if_true];exact ay.keep (fun _ _=>rfl) fun _ h=>.inr h)
     |bY bE b o ay aV ct=>exact .bY bE b o (by simp only[hi,if_true];exact ay) aV (by simp only[hi,if_true];exact bE.mono _ _ _ _ (fun x c h=>h.keep (fun _ _=>rfl) fun _ h=>.inr h) ct)
   ·simp only[hi,if_false]at ag
    have gq:=h.heap.c4 id p ag
    cases gq with
    |box t cs b arr ay aV ct eA=>
     have ir:=nE id _ b ag rfl (by rw[ay];rfl)
     exact .box t cs b arr (by simp only[hi,if_false];exact ay) ((lE b ir).trans aV) ct fun j x ai=>up _ _ (eA j x ai)
    |row t n es xs ay aV ct=>
     exact .row t n es xs (by simp only[hi,if_false];exact ay.keep (fun b ad=>lE b (ay.hk ad).1) cq.size) aV fun j x ai=>(ct j x ai).keep b6 fun _ h=>.inl h
    |fQ t n es ay=>exact .fQ t n es (by simp only[hi,if_false];exact ay.keep b6 fun _ h=>.inl h)
    |bY bE b o ay aV ct=>exact .bY bE b o (by simp only[hi,if_false];exact ay) ((lE b (Array.getElem?_eq_some_iff.1 aV).1).trans aV) (by simp only[hi,if_false];exact bE.mono _ _ _ _ (fun x c h=>h.keep b6 fun _ h=>.inl h) ct)
  ·intro id gJ p fF b ag dN ak gp a7 ea
   rw[look]at ag dN
   by_cases hi:s.next≤id
   ·simp only[hi,if_true]at ag a7
    cases ah:aE fg (id-s.next)with
    |none=>simp[ah]at ag
    |some q=>
     have qC:q.live=true:=by simp[ah]at ag;subst ag;cases q<;>first|rfl|exact ak
     have hW:=BJ _ q b ah qC a7
     by_cases gA:s.next≤gJ
     ·simp only[gA,if_true]at dN ea
      cases e1:aE fg (gJ-s.next)with
      |none=>simp[e1]at dN
      |some gx=>
       have yh:gx.live=true:=by simp[e1]at dN;subst dN;cases gx<;>first|rfl|exact gp
       have:=hs.inj _ _ q gx b ah e1 qC yh a7 ea
       omega
     ·simp only[gA,if_false]at dN ea
      have:=nE gJ fF b dN gp ea
      omega
   ·simp only[hi,if_false]at ag a7
    have Hc:=nE id p b ag ak a7
    by_cases gA:s.next≤gJ
    ·simp only[gA,if_true]at dN ea
     cases e1:aE fg (gJ-s.next)with
     |none=>simp[e1]at dN
     |some gx=>
      have yh:gx.live=true:=by simp[e1]at dN;subst dN;cases gx<;>first|rfl|exact gp
      have hW:=BJ _ gx b e1 yh ea
      omega
    ·simp only[gA,if_false]at dN ea
     exact h.heap.inj id gJ p fF b ag dN ak gp a7 ea
  ·rintro b ad ⟨id,p,ag,ak,a7⟩
   rw[look]at ag
   by_cases hi:s.next≤id
   ·simp only[hi,if_true]at ag a7
    cases ah:aE fg (id-s.next)with
    |none=>simp[ah]at ag
    |some q=>
     have qC:q.live=true:=by simp[ah]at ag;subst ag;cases q<;>first|rfl|exact ak
     have hW:=BJ _ q b ah qC a7
     rcases ad with ad|ad
     ·have:=h.heap.lt b ad;omega
     ·exact hs.ft b ad ⟨_,q,ah,qC,a7⟩
   ·simp only[hi,if_false]at ag a7
    have Hc:=nE id p b ag ak a7
    rcases ad with ad|ad
    ·exact h.heap.ft b ad ⟨id,p,ag,ak,a7⟩
    ·rcases Ob b ad with hc|hc
     ·exact h.heap.ft b hc ⟨id,p,ag,ak,a7⟩
     ·omega
  ·intro b ad
   rcases ad with ad|ad
   ·exact Nat.lt_of_lt_of_le (h.heap.lt b ad) cq.size
   ·exact hs.lt b ad
  ·exact h.hT.keep b6 fun _ h=>.inl h
  ·have t:=h.trans
   refine⟨cq.os.trans t.os,cq.tape.trans t.tape,cq.output.trans t.output,Nat.le_trans t.size cq.size,fun b ir hq=>(lE b (Nat.lt_of_lt_of_le ir t.size)).trans (t.frame b ir hq),?_,fun b ad=>.inl (t.jL b ad),?_,?_,?_,?_⟩
   ·intro b ad
    rcases ad with ad|ad
    ·exact t.iM b ad
    ·rcases Ob b ad with hc|hc
     ·exact t.iM b hc
     ·exact .inr (.inr (Nat.le_trans t.size hc))
   ·rintro b ⟨id,p,ag,ak,a7⟩
    rw[look]at ag
    by_cases hi:s.next≤id
    ·simp only[hi,if_true]at ag a7
     cases ah:aE fg (id-s.next)with
     |none=>simp[ah]at ag
     |some q=>
      have qC:q.live=true:=by simp[ah]at ag;subst ag;cases q<;>first|rfl|exact ak
      exact .inr (Nat.le_trans t.size (BJ _ q b ah qC a7))
    ·simp only[hi,if_false]at ag a7
     exact t.gK b ⟨id,p,ag,ak,a7⟩
   ·intro id hid p ag
    have aa:=h.base
    have hi: ¬s.next≤id:=by omega
    rw[look,if_neg hi]at ag;simp only[hi,if_false];exact t.dE id hid p ag
   ·intro id p ag
    simp only[look]at ag
    by_cases hi:s.next≤id
    ·simp only[hi,if_true]at ag
     cases ah:aE fg (id-s.next)with
     |none=>simp[ah]at ag
     |some q=>
      have:=(qL BH ah).1
      show id<s.next+K;omega
    ·show id<s.next+K
     omega
   ·have:=h.base
    show E.n≤s.next+K;omega
  ·exact bp.shift qN (fun _ h=>.inr h) Hb
theorem ee.call{o:Oper}{x:Operand}{xs:Array Operand}{ts:Array TypeId}(an:o.op= .call {callee:=.value x,args:=xs,argTypes:=ts}){f:FuncId}(hx:aI G s x= .fn (.func f) [] [])
 (gf:mT P f=true){args:List aD}(h7:xs.toList.map (fun y=>mR s.heap (aI G s y))=args)(ox:eL args=true){R:aD→bz→Prop}(hc:dI P G f args [] 0 R){K:Nat}{r:aD}{bO:bz}
 (gC: ∀er fg,R er fg→er=r∧fg=bO)(G8:gd K r=true)(BH:k5 K bO=true)(ad:s.base≤s.next):
 ee P G o s ({s with heap:=k6 s.next bO++s.heap,next:=s.next+K}.put o.dst (pw s.next r)):=(l1.call an hx gf h7 ox hc gC G8 BH ad).op
end
end Go.aL
namespace Go.aL
open Go
section
variable {P:Program} {G:aY} {o:Oper} {s:aM}
theorem dp.Oc{w:World}{ro:Nat→Prop}{n:Nat}{es:List (List bd)}{c:Value}(h:dp w ro (.aN n es) c): ∃b cap,c= .slice b es.length cap:=by
 cases h with
 |aN _ _ b cap=>exact⟨b,cap,rfl⟩
def lF(σ:bz):aD→Option Nat
 | .au (.aN _ es)=>some es.length
 | .au (.v (.slice none 0 0))=>some 0
 | .aN id=>match aE σ id with
  |some (.row _ _ _ es)=>some es.length
  |_=>none
 |_=>none
theorem Xn{w:World}{ro:Nat→Prop}{σ:bz}{β:Nat→Value}{N:Nat}(a8:hl w ro σ β N){x:aD}{c:Value}(h:bp w ro σ β N x c){m:Nat}(hm:lF σ x=some m): ∃b cap,c= .slice b m cap:=by
 cases h with
 |au x c hx=>
  cases hx with
  |v _ aa=>
   cases c with
   |slice a l iq=>
    cases a with
    |none=>
     cases l with
     |zero=>
      cases iq with
      |zero=>simp[lF]at hm;subst hm;exact⟨_,_,rfl⟩
      |succ=>simp[lF]at hm
     |succ=>simp[lF]at hm
    |some=>simp[lF]at hm
   |_=>simp[lF]at hm
  |ptr=>simp[lF]at hm
  |mp=>simp[lF]at hm
  |li=>simp[lF]at hm
  |aN n es b cap c aa ae aq aT bD=>
   simp only[lF,Option.some.injEq]at hm;subst hm;exact⟨b,cap,rfl⟩
 |aN id c ao ak=>
  simp only[lF]at hm
  split at hm
  ·rename_i z t n es ag
   simp only[Option.some.injEq]at hm;subst hm;rw[ak z t n es ag]
   have:=a8.c4 id _ ag
   cases this with
   |row _ _ _ xs aa=>
    rcases aa.2 with⟨⟨_,av,_⟩,br⟩|⟨g,cap,cur,av,_⟩
    ·rw[av,br];exact⟨_,_,rfl⟩
    ·rw[av];exact⟨_,_,rfl⟩
   |fQ _ _ _ aa=>exact aa.Oc
  ·cases hm
 |_=>simp[lF]at hm
def isSlice(P:Program)(t:TypeId):Bool:=
 match P.underlying t with
 |some (.slice _)=>true
 |_=>false
theorem Hd(x:Operand)(t:TypeId)(an:o.op= .call {callee:=.builtin .len,args:=#[x],argTypes:=#[t]})(aG:isSlice P t=true){m:Nat}(hm:lF s.heap (aI G s x)=some m):
 cT P G o s (.au (.v (.int .i64 (m:Int)))):=
 fun _ a w β ro af=>by
  obtain⟨b,cap,hc⟩:=Xn af.heap (af.eval x) hm;unfold isSlice at aG
  split at aG
  ·rename_i e hu
   refine⟨.int .i64 m,?_,.fK rfl⟩
   simp[execOp,an,resolve,invoke,builtin,hc,Builtin.len_,run_underlying hu,goInt]
  ·cases aG
theorem He(x:Operand)(t:TypeId)(an:o.op= .call {callee:=.builtin .len,args:=#[x],argTypes:=#[t]})(aG:P.underlying t=some .string){b:ByteArray}(hx:aI G s x= .au (.v (.string b))):
 cT P G o s (.au (.v (.int .i64 (b.size:Int)))):=
 fun _ a w β ro af=>by
  refine⟨.int .i64 b.size,?_,.fK rfl⟩
  simp[execOp,an,resolve,invoke,builtin,af.en hx,Builtin.len_,run_underlying aG,goInt]
def BK(P:Program)(t:TypeId):Option Nat:=
 match P.underlying t with
 |some (.array n _)=>some n
 |some (.pointer a)=>match P.underlying a with
  |some (.array n _)=>some n
  |_=>none
 |_=>none
theorem Od(x:Operand)(t:TypeId)(an:o.op= .call {callee:=.builtin .len,args:=#[x],argTypes:=#[t]}){n:Nat}(aG:BK P t=some n):
 cT P G o s (.au (.v (.int .i64 (n:Int)))):=
 fun _ a w β ro af=>by
  refine⟨.int .i64 n,?_,.fK rfl⟩
  unfold BK at aG
  split at aG
  ·rename_i m e hu
   simp only[Option.some.injEq]at aG;subst aG;simp[execOp,an,resolve,invoke,builtin,Builtin.len_,run_underlying hu,goInt]
  ·rename_i p hu
   split at aG
   ·rename_i m e Xo
    simp only[Option.some.injEq]at aG;subst aG;simp[execOp,an,resolve,invoke,builtin,Builtin.len_,run_underlying hu,run_underlying Xo,goInt]
   ·cases aG
  ·cases aG
def jP(P:Program)(t:TypeId):Option Nat:=
 match P.underlying t with
 |some (.slice e)=>(P.info? e).map (·.size)
 |_=>none
theorem yu{t n:Nat}(h:jP P t=some n): ∃e,P.underlying t=some (.slice e)∧∀w,(sizeOf e).run P w= .ok n w:=by
 unfold jP at h
 split at h
 ·rename_i e hu
  cases hi:P.info? e with
  |none=>simp[hi]at h
  |some i=>
   simp[hi]at h;subst h;exact⟨e,hu,fun w=>by simp[sizeOf,typeInfo,hi]⟩
 ·cases h
def mU(σ:bz)(n j:Nat):aD→Option aD
 | .au (.aN m es)=>if m=n then match es[j]? with
  |some e=>some (.au (.ptr e))
  |none=>none
  else none
 | .aN id=>match aE σ id with
  |some (.row false _ m es)=>if m=n∧j<es.length then some (.cE id j 0)else none
  |some (.row true _ m es)=>if m=n then match es[j]? with
   |some e=>some (.au (.ptr e))
   |none=>none
   else none
  |_=>none
 |_=>none
theorem dp.elem{w:World}{ro:Nat→Prop}{n:Nat}{es:List (List bd)}{c:Value}(h:dp w ro (.aN n es) c){j:Nat}{e:List bd}(ai:es[j]? =some e):
 ∃a cap,c= .slice (some a) es.length cap∧dp w ro (.ptr e) (.pointer (some (a.add (j*n)))):=by
 cases h with
 |aN _ _ b cap f aa ae aq aT bD=>
  have dP:j<es.length:=(List.getElem?_eq_some_iff.1 ai).1
  obtain⟨a,rfl,hc⟩:=aT (by omega)
  have nD:e.length=n:=aq e (List.mem_of_getElem? ai)
  have GY:j*n+n≤es.length*n:=by rw[←Nat.succ_mul];exact Nat.mul_le_mul_right n dP
  refine⟨a,cap,rfl,.ptr _ _ (fun k=>f (j*n+k)) (fun k x aj=>?_) (fun k x aj=>?_)⟩
  ·have oy:k<n:=by have:=(List.getElem?_eq_some_iff.1 aj).1;omega
   rw[tQ,yc];exact hc _ (by omega)
  ·have oy:k<n:=by have:=(List.getElem?_eq_some_iff.1 aj).1;omega
   exact bD _ _ (by rw[qA aq ai k oy];exact aj)
theorem Oe{w:World}{ro:Nat→Prop}{σ:bz}{β:Nat→Value}{N:Nat}(a8:hl w ro σ β N){x:aD}{c:Value}(h:bp w ro σ β N x c){n j:Nat}{p:aD}(ak:mU σ n j x=some p):
 ∃a len cap,c= .slice (some a) len cap∧j<len∧bp w ro σ β N p (.pointer (some (a.add (j*n)))):=by
 cases h with
 |au x c hx=>
  cases x with
  |v=>simp[mU]at ak
  |ptr=>simp[mU]at ak
  |mp=>simp[mU]at ak
  |li=>simp[mU]at ak
  |aN m es=>
   simp only[mU]at ak
   split at ak
   ·rename_i hm
    subst hm
    split at ak
    ·rename_i e he
     simp only[Option.some.injEq]at ak;subst ak;obtain⟨a,cap,hc,af⟩:=hx.elem he;exact⟨a,es.length,cap,hc,(List.getElem?_eq_some_iff.1 he).1,.au _ _ af⟩
    ·cases ak
   ·cases ak
 |aN id c ao aJ=>
  simp only[mU]at ak
  split at ak
  ·rename_i t m es ag
   split at ak
   ·rename_i hm
    obtain⟨rfl,ai⟩:=hm;simp only[Option.some.injEq]at ak;subst ak
    have dq:=a8.c4 id _ ag
    cases dq with
    |row _ _ _ xs aa=>
     rcases aa.2 with⟨_,br⟩|⟨g,cap,cur,av,_⟩
     ·omega
     ·rw[aJ _ _ _ _ ag,av]
      refine⟨_,_,_,rfl,ai,.cE _ _ _ _ ao fun h5 bs cO eu dN=>?_⟩
      rw[ag]at dN;simp only[Option.some.injEq,ej.row.injEq]at dN;obtain⟨_,_,rfl,_⟩:=dN;exact⟨g,_,_,av,by rw[addLit];simp⟩
   ·cases ak
  ·rename_i t m es ag
   split at ak
   ·rename_i hm
    subst hm
    split at ak
    ·rename_i e he
     simp only[Option.some.injEq]at ak;subst ak
     have dq:=a8.c4 id _ ag
     cases dq with
     |fQ _ _ _ aa=>
      obtain⟨a,cap,hc,af⟩:=aa.elem he;exact⟨a,es.length,cap,by rw[aJ _ _ _ _ ag,hc],(List.getElem?_eq_some_iff.1 he).1,.au _ _ af⟩
    ·cases ak
   ·cases ak
  ·cases ak
 |_=>simp[mU]at ak
theorem Of(t:TypeId)(x i:Operand)(an:o.op= .indexAddr t x i){n:Nat}(aG:jP P t=some n){k:IntKind}{j:Nat}(hi:aI G s i= .au (.v (.int k (j:Int)))){p:aD}(ak:mU s.heap n j (aI G s x)=some p):
 cT P G o s p:=
 fun _ a w β ro af=>by
  obtain⟨cP,len,cap,hc,ai,dk⟩:=Oe af.heap (af.eval x) ak;obtain⟨e,hu,bJ⟩:=yu aG;refine⟨_,?_,dk⟩
  have tX:(0:Int)≤j∧(j:Int)<len:=⟨by omega,by omega⟩
  simp[execOp,an,hc,af.en hi,Instr.indexAt,asIntOf,run_underlying hu,ai,bJ]
def tY(P:Program)(t:TypeId):Option (Nat × Nat):=
 match P.underlying t with
 |some (.array n e)=>(P.info? e).map fun i=>(n,i.size)
 |_=>none
theorem Hf(t:TypeId)(x i:Operand)(an:o.op= .indexAddr t x i){len n:Nat}(aG:tY P t=some (len,n)){k:IntKind}{j:Nat}(hi:aI G s i= .au (.v (.int k (j:Int))))(ai:j<len)
 {cs:List aD}(fu:fc s.heap (aI G s x)=some cs){p:aD}(ak:iO (j*n) (aI G s x)=some p):
 cT P G o s p:=
 fun _ a w β ro af=>by
  obtain⟨cP,hc,dk⟩:=Nx ak fu (af.eval x);unfold tY at aG
  split at aG
  ·rename_i m e hu
   cases tZ:P.info? e with
   |none=>simp[tZ]at aG
   |some Xp=>
    simp[tZ]at aG;obtain⟨rfl,rfl⟩:=aG;refine⟨_,?_,dk⟩
    simp[execOp,an,hc,af.en hi,Instr.indexAt,asIntOf,run_underlying hu,Instr.sureAddr,ai,sizeOf,typeInfo,tZ]
  ·cases aG
theorem Og(t:TypeId)(x i:Operand)(an:o.op= .index t x i)(aG:P.underlying t=some .string){k:IntKind}{j:Nat}(hi:aI G s i= .au (.v (.int k (j:Int)))){b:ByteArray}(hx:aI G s x= .au (.v (.string b)))
 {u:UInt8}(hu:b.data.toList[j]? =some u):cT P G o s (.au (.v (.int .u8 (u.toNat:Int)))):=
 fun _ a w β ro af=>by
  have ai:b[j]? =some u:=by
   have aa:j<b.size:=by have:=(List.getElem?_eq_some_iff.1 hu).1;simpa using this
   rw[ByteArray.getElem?_lt' b j aa]
   rw[List.getElem?_eq_some_iff]at hu
   obtain⟨_,ae⟩:=hu;simp only[Option.some.injEq];rw[←ae];rfl
  exact⟨_,by simp[execOp,an,af.en hx,af.en hi,Instr.index,asIntOf,run_underlying aG,ai],.fK rfl⟩
def vL(P:Program)(t:TypeId)(f:Nat):Option (Nat × Option Nat):=
 match P.underlying t with
 |some (.struct fs)=>match fs[f]? with
  |some fd=>if scalar P fd.type then some (fd.offset,none)else match l2 P fd.type with
   |some n=>some (fd.offset,some n)
   |none=>none
  |none=>none
 |_=>none
theorem Oh(t:TypeId)(x:Operand)(f:Nat)(an:o.op= .field t x f){off:Nat}(aG:vL P t f=some (off,none)){cs:List aD}(hx:aI G s x= .agg cs){v:aD}(av:cs[off]? =some v):
 cT P G o s v:=
 fun _ a w β ro af=>by
  have h:=af.eval x
  rw[hx]at h;generalize he:a.eval x=c at h
  cases h with
  |agg _ c ah hc=>
   have bA:off<c.size:=by have:=(List.getElem?_eq_some_iff.1 av).1;omega
   unfold vL at aG
   split at aG
   ·rename_i fs hu
    split at aG
    ·rename_i fd hf
     split at aG
     ·rename_i hsc
      simp only[Option.some.injEq,Prod.mk.injEq,and_true]at aG;subst aG;refine⟨c[fd.offset],?_,by simpa[bA]using hc _ v av⟩
      simp[execOp,an,he,Instr.field,run_underlying hu,hf,asAgg,part,yd hsc,bA]
     ·split at aG
      ·simp at aG
      ·cases aG
    ·cases aG
   ·cases aG
theorem Oi(t:TypeId)(x:Operand)(f:Nat)(an:o.op= .field t x f){off n:Nat}(aG:vL P t f=some (off,some n)){cs:List aD}(hx:aI G s x= .agg cs)(hn:off+n≤cs.length):
 cT P G o s (.agg ((cs.drop off).take n)):=
 fun _ a w β ro af=>by
  have h:=af.eval x
  rw[hx]at h;generalize he:a.eval x=c at h
  cases h with
  |agg _ c ah hc=>
   unfold vL at aG
   split at aG
   ·rename_i fs hu
    split at aG
    ·rename_i fd hf
     split at aG
     ·simp at aG
     ·split at aG
      ·rename_i m bF
       simp only[Option.some.injEq,Prod.mk.injEq]at aG;obtain⟨rfl,rfl⟩:=aG;obtain⟨g1,g2⟩:=Bx bF w;refine⟨.agg (c.extract fd.offset (fd.offset+m)),?_,.agg _ _ (by simp;omega) fun j y ai=>?_⟩
       ·simp[execOp,an,he,Instr.field,run_underlying hu,hf,asAgg,part,g1,g2]
       ·rw[List.getElem?_take]at ai
        split at ai
        ·rename_i Oj
         rw[List.getElem?_drop]at ai
         have:=hc _ y ai
         have aa:fd.offset+j<c.size:=by omega
         have ae:j<(c.extract fd.offset (fd.offset+m)).size:=by simp;omega
         simp only[Array.getD,ae,dif_pos];simpa[aa]using this
        ·cases ai
      ·cases aG
    ·cases aG
   ·cases aG
def places(P:Program)(t:TypeId):Option (Nat→Option (Nat × Nat)):=
 match P.underlying t with
 |some (.struct fs)=>if fs.toList.all fun f=>(P.info? f.type).isSome then some fun i=>(fs.toList.map fun f=>(f.offset,((P.info? f.type).map (·.size)).getD 0))[i]? else none
 |some (.array _ e)=>match P.info? e with
  |some inf=>some fun i=>some (i*inf.size,inf.size)
  |none=>none
 |_=>none
def jQ(place:Nat→Option (Nat × Nat)):List aD→List (Nat × aD)→Option (List aD)
 |cs,[]=>some cs
 |cs,(i,v)::rest=>match place i with
  |some (off,size)=>if(cy v).length=size∧off+size≤cs.length then jQ place (dW cs off (cy v)) rest else none
  |none=>none
theorem Ok(off:Nat): ∀(vs:List Value) (k:Nat) (cs:Array Value),off+k+vs.length≤cs.size→
 ((vs.zipIdx k).foldl (fun(cs:Array Value) (x:Value × Nat)=>cs.setIfInBounds (off+x.2) x.1) cs).toList=dW cs.toList (off+k) vs
 |[],k,cs,h=>by simp[dW]
 |v::vs,k,cs,h=>by
  simp only[List.zipIdx_cons,List.foldl_cons];rw[Ok off vs (k+1) (cs.setIfInBounds (off+k) v) (by simp at h⊢;omega)]
  have e:=list_seg_step cs.toList (off+k) v vs (by simp at h⊢;omega)
  simp only[dW,Array.toList_setIfInBounds,←Nat.add_assoc]at*;simp only[List.append_assoc]at e;rw[e];simp[Nat.add_assoc]
theorem BL{place place':Nat→Option (Nat × Nat)}(pj: ∀i p,place i=some p→place' i=some p){w:World}{ro:Nat→Prop}{σ:bz}{β:Nat→Value}{N:Nat}(a8:hl w ro σ β N):
    ∀{ps:List (Nat × aD)} {qs:List (Nat × Value)} {cs ds:List aD} {xs:Array Value},jQ place cs ps=some ds→ps.map (·.1)=qs.map (·.1)→(∀(j:Nat) (p:Nat × aD) (q:Nat × Value),ps[j]? =some p→qs[j]? =some q→bp w ro σ β N p.2 q.2∧(cy p.2).all (ek σ)=true)→
    xs.size=cs.length→(∀j x,cs[j]? =some x→bp w ro σ β N x (xs.getD j undef))→
    ∃ys,Instr.fill place' xs qs=some ys∧ys.size=ds.length∧∀j x,ds[j]? =some x→bp w ro σ β N x (ys.getD j undef)
  |[],qs,cs,ds,xs,hf,aj,_,ah,hx=>by
    simp[jQ]at hf;subst hf
    have:qs=[]:=by cases qs with
      |nil=>rfl
      |cons=>simp at aj
    subst this;exact⟨xs,by simp[Instr.fill],ah,hx⟩
  |(i,v)::ps,[],cs,ds,xs,hf,aj,_,ah,hx=>by simp at aj
  |(i,v)::ps,(yv,u)::qs,cs,ds,xs,hf,aj,af,ah,hx=>by
    simp only[List.map_cons,List.cons.injEq]at aj;obtain⟨rfl,aj⟩:=aj;simp only[jQ]at hf
    split at hf
    · rename_i off size ak
      split at hf
      · rename_i hc
        obtain⟨BM,Hg⟩:=hc
        have dk:bp w ro σ β N v u:=(af 0 (i,v) (i,u) rfl rfl).1
        have dQ:(cy v).all (ek σ)=true:=(af 0 (i,v) (i,u) rfl rfl).2
        obtain⟨g1,g2,_⟩:=dk.cy dQ a8
        have Ol:=Ok off u.cells.toList 0 xs (by simp;omega)
        simp only[Nat.add_zero]at Ol
        have aQ:=BL pj a8 (ps:=ps) (qs:=qs) (cs:=dW cs off (cy v)) (ds:=ds) (xs:=(dW xs.toList off u.cells.toList).toArray) hf aj (fun j p q aa ae=>af (j+1) p q aa ae)
          (by rw[List.size_toArray,pr _ _ _ (by simp;omega),pr _ _ _ (by omega)];simpa using ah) (fun j x ai=>by
            have:=GV (bp w ro σ β N) undef (cs:=cs) (vs:=cy v) (xs:=xs.toList) (ys:=u.cells.toList) (off:=off) (by simp;omega) (by simp;omega) (by omega)
              (fun j x ai=>by have:=hx j x ai;simpa[Array.getD_eq_getD_getElem?,List.getD]using this) (fun j x ai=>by have:=g2 j x ai;simpa[Array.getD_eq_getD_getElem?,List.getD]using this) j x ai
            simpa[Array.getD_eq_getD_getElem?,List.getD]using this)
        obtain⟨ys,aa,ae,aq⟩:=aQ;refine⟨ys,?_,ae,aq⟩
        rw[Instr.fill.eq_2,pj _ _ ak];simp only;rw[if_neg (by simp;omega)]
        have Xq:Array.foldl (fun cs x=>match x with
            |(c,j)=>cs.setIfInBounds (off+j) c) xs u.cells.zipIdx=(dW xs.toList off u.cells.toList).toArray:=by
          apply Array.ext';rw[←Ol,←Array.foldl_toList];simp
        rw[Xq];exact aa
      · cases hf
    · cases hf
theorem run_places(w:World): ∀l:List Field,(l.all fun f=>(P.info? f.type).isSome)=true→(l.mapM (fun f=>do
    let n ←sizeOf f.type
    pure (f.offset,n):Field→Sem (Nat × Nat))).run P w= .ok (l.map fun f=>(f.offset,((P.info? f.type).map (·.size)).getD 0)) w
  |[],_=>by simp
  |f::r,h=>by
    simp only[List.all_cons,Bool.and_eq_true]at h
    have aQ:=run_places w r h.2
    cases hi:P.info? f.type with
    |none=>simp[hi]at h
    |some inf=>
      have aa:(sizeOf f.type).run P w= .ok inf.size w:=by simp[sizeOf,typeInfo,hi]
      simp only[List.mapM_cons,Sem.run_bind,aa,Result.andThen_ok,Sem.run_pure,aQ];simp[hi]
theorem run_build{t:TypeId}{pl:Nat→Option (Nat × Nat)}(ak:places P t=some pl){zs:List Value}(br:zeroCells P t=some zs){parts:Array (Nat × Value)}{ys:Array Value}(hf:Instr.fill pl zs.toArray parts.toList=some ys)(w:World):
    (Instr.build t parts).run P w= .ok (.agg ys) w:=by
  obtain⟨z,l6,oq,_⟩:=yj br w;unfold places at ak
  split at ak
  · rename_i fs hu
    split at ak
    · rename_i dQ
      simp only[Option.some.injEq]at ak;subst ak
      have aa:=run_places w fs.toList dQ
      have ae:(fs.mapM (fun f=>do
          let n ←sizeOf f.type
          pure (f.offset,n):Field→Sem (Nat × Nat))).run P w= .ok (fs.toList.map fun f=>(f.offset,((P.info? f.type).map (·.size)).getD 0)).toArray w:=by
        rw[Array.mapM_eq_mapM_toList];simp only[Sem.run_map,aa];rfl
      simp only[Instr.build,Sem.run_bind,l6,Result.andThen_ok,run_underlying hu,ae,oq]
      have aq:(fun(x:Nat)=>(fs.toList.map fun f=>(f.offset,((P.info? f.type).map (·.size)).getD 0)).toArray[x]?)=(fun(i:Nat)=>(fs.toList.map fun f=>(f.offset,((P.info? f.type).map (·.size)).getD 0))[i]?):=by
        funext i;simp
      rw[aq,hf];rfl
    · cases ak
  · rename_i n e hu
    split at ak
    · rename_i inf hi
      simp only[Option.some.injEq]at ak;subst ak
      have aa:(sizeOf e).run P w= .ok inf.size w:=by simp[sizeOf,typeInfo,hi]
      simp only[Instr.build,Sem.run_bind,l6,Result.andThen_ok,run_underlying hu,aa,oq,hf];rfl
    · cases ak
  · cases ak
theorem Hh{w:World}{ro:Nat→Prop}{σ:bz}{β:Nat→Value}{N:Nat}{zs:List Value}(dQ:zs.all Value.oneCell'=true): ∀(j:Nat) (x:aD),(zs.map fun z=>aD.au (.v z))[j]? =some x→bp w ro σ β N x (zs.toArray.getD j undef):=by
 intro j x ai
 rw[List.getElem?_map]at ai
 cases qE:zs[j]? with
 |none=>simp[qE]at ai
 |some y=>
  simp[qE]at ai;subst ai
  have:y.oneCell'=true:=by
   rw[List.all_eq_true]at dQ;exact dQ y (List.mem_of_getElem? qE)
  simpa[qE]using bp.au (w:=w) (ro:=ro) (σ:=σ) (β:=β) (N:=N) _ _ (.v y this)
theorem Hi{E:Entry}{a:Act}{w:World}{β:Nat→Value}{ro:Nat→Prop}(af:c6 E G s a w β ro){parts:Array (Nat × Operand)}{ps:List (Nat × aD)}(qO:parts.toList.map (fun p=>(p.1,aI G s p.2))=ps)
 (dQ:ps.all (fun p=>(cy p.2).all (ek s.heap))=true):
 ps.map (·.1)=(parts.map fun p=>(p.1,a.eval p.2)).toList.map (·.1)∧
 ∀(j:Nat) (p:Nat × aD) (q:Nat × Value),ps[j]? =some p→(parts.map fun p=>(p.1,a.eval p.2)).toList[j]? =some q→bp w ro s.heap β s.next p.2 q.2∧(cy p.2).all (ek s.heap)=true:=by
 subst qO
 refine⟨by simp,fun j p q aa ae=>?_⟩
 have ak:(cy p.2).all (ek s.heap)=true:=by
  rw[List.all_eq_true]at dQ;exact dQ p (List.mem_of_getElem? aa)
 rw[List.getElem?_map]at aa
 rw[Array.toList_map,List.getElem?_map]at ae
 cases ai:parts.toList[j]? with
 |none=>simp[ai]at aa
 |some y=>
  simp[ai]at aa ae;subst aa ae;exact⟨af.eval _,ak⟩
theorem Om(t:TypeId)(parts:Array (Nat × Operand))(an:o.op= .build t parts){pl:Nat→Option (Nat × Nat)}(ak:places P t=some pl){zs:List Value}(br:zeroCells P t=some zs)(rZ:zs.all Value.oneCell'=true)
 {ps:List (Nat × aD)}(qO:parts.toList.map (fun p=>(p.1,aI G s p.2))=ps)(dQ:ps.all (fun p=>(cy p.2).all (ek s.heap))=true){ds:List aD}(hf:jQ pl (zs.map fun z=>.au (.v z)) ps=some ds):
 cT P G o s (.agg ds):=
 fun _ a w β ro af=>by
  obtain⟨aa,ae⟩:=Hi af qO dQ;obtain⟨ys,g1,g2,g3⟩:=BL (place':=pl) (fun _ _ h=>h) af.heap hf aa ae (xs:=zs.toArray) (by simp) (Hh rZ)
  refine⟨.agg ys,?_,.agg _ _ g2 g3⟩
  have ad:=run_build (P:=P) ak br g1 w
  simp only[execOp,an,Sem.run_bind]
  erw [ad]
  rfl
end
end Go.aL
namespace Go.aL
open Go
mutual
def ep(id:Nat):aD→aD
 | .au x=>.au x
 | .agg cs=>.agg (eg id cs)
 | .tuple cs=>.tuple (eg id cs)
 | .ptr k off=>if k=id then .top else .ptr k off
 | .dB k off=>if k=id then .top else .dB k off
 | .cE k i off=>if k=id then .top else .cE k i off
 | .aN k=>if k=id then .top else .aN k
 | .fn f p q=>.fn f (eg id p) (eg id q)
 | .ref k=>if k=id then .top else .ref k
 | .top=>.top
def eg(id:Nat):List aD→List aD
 |[]=>[]
 |x::r=>ep id x::eg id r
end
def dr(id:Nat):bz→bz
 |[]=>[]
 |(k,.box t cs)::r=>if k=id then dr id r else(k,.box t (eg id cs))::dr id r
 |(k,.row z t n es)::r=>if k=id then dr id r else(k,.row z t n es)::dr id r
 |(k,.bY bE)::r=>if k=id then dr id r else(k,.bY bE)::dr id r
def eb(id:Nat):ej→ej
 | .box t cs=>.box t (eg id cs)
 | .row z t n es=>.row z t n es
 | .bY bE=>.bY bE
theorem hH(d:Nat): ∀(l:List aD),(eg d l).length=l.length
 |[]=>rfl
 |x::r=>by simp[eg,hH d r]
theorem ht(d:Nat): ∀{l:List aD} {j:Nat} {x:aD},(eg d l)[j]? =some x→∃y,l[j]? =some y∧x=ep d y
 |[],j,x,h=>by simp[eg]at h
 |y::r,j,x,h=>by
  cases j with
  |zero=>simp[eg]at h;exact⟨y,by simp,h.symm⟩
  |succ j=>simp[eg]at h;simpa using ht d h
theorem qP(id:Nat): ∀(σ:bz) (k:Nat),aE (dr id σ) k=if k=id then none else(aE σ k).map (eb id)
 |[],k=>by simp[dr,aE]
 |(j,.box t cs)::r,k=>by
  have aQ:=qP id r k
  by_cases ai:j=id
  ·subst ai
   by_cases aj:k=j
   ·subst aj;simpa[dr]using aQ
   ·simp[dr,aE,aQ,aj,Ne.symm aj]
  ·by_cases aj:j=k
   ·subst aj;simp[dr,aE,ai,eb]
   ·simp[dr,aE,ai,aj,aQ]
 |(j,.row z t n es)::r,k=>by
  have aQ:=qP id r k
  by_cases ai:j=id
  ·subst ai
   by_cases aj:k=j
   ·subst aj;simpa[dr]using aQ
   ·simp[dr,aE,aQ,aj,Ne.symm aj]
  ·by_cases aj:j=k
   ·subst aj;simp[dr,aE,ai,eb]
   ·simp[dr,aE,ai,aj,aQ]
 |(j,.bY bE)::r,k=>by
  have aQ:=qP id r k
  by_cases ai:j=id
  ·subst ai
   by_cases aj:k=j
   ·subst aj;simpa[dr]using aQ
   ·simp[dr,aE,aQ,aj,Ne.symm aj]
  ·by_cases aj:j=k
   ·subst aj;simp[dr,aE,ai,eb]
   ·simp[dr,aE,ai,aj,aQ]
theorem iP(id:Nat)(o:ej):(eb id o).live=o.live:=by cases o<;>rfl
section
variable {P:Program} {G:aY} {s:aM} {E:Entry} {a:Act} {w w':World} {β:Nat→Value} {ro:Nat→Prop}
theorem c6.renew(h:c6 E G s a w β ro)(id:Nat)(ad:s.base≤id)(bA:id<s.next){t0:TypeId}{n0:Nat}{yw:List (List bd)}(hid:aE s.heap id=some (.row false t0 n0 yw))(o:ej)(val:Value)
 (om:w'.os=w.os)(oo:w'.tape=w.tape)(ku:w'.output=w.output)(bJ:w.heap.size≤w'.heap.size)(hw: ∀b,b<w.heap.size→cb (β id)≠some b→w'.heap[b]? =w.heap[b]?)
 (gN: ∀b,cb val=some b→cb (β id)=some b∨w.heap.size≤b)(GQ:o.live=true)
 (dq:ly w' ro ((id,o)::dr id s.heap) (hp β id val) s.next id o):
 c6 E G ⟨eg id s.cC,(id,o)::dr id s.heap,s.next,s.base⟩ a w' (hp β id val) ro:=by
 have b6: ∀b,ro b→w'.heap[b]? =w.heap[b]? :=fun b af=>hw b (h.heap.lt b af) fun ad=>h.heap.ft b af ⟨id,_,hid,rfl,ad⟩
 have ag: ∀k,k≠id→aE ((id,o)::dr id s.heap) k=(aE s.heap k).map (eb id):=fun k aj=>by simp[aE,Ne.symm aj,qP,aj]
 have tS:aE ((id,o)::dr id s.heap) id=some o:=by simp[aE]
 have key: ∀x c,bp w ro s.heap β s.next x c→bp w' ro ((id,o)::dr id s.heap) (hp β id val) s.next (ep id x) c:=by
  intro x c hx
  induction hx with
  |au x c hx=>exact .au x c (hx.keep b6 fun _ h=>h)
  |agg cs c ah _ aQ=>
   refine .agg _ c (by rw[hH];exact ah) fun j x ai=>?_
   obtain⟨y,ax,rfl⟩:=ht id ai;exact aQ j y ax
  |tuple cs c ah _ aQ=>
   refine .tuple _ c (by rw[hH];exact ah) fun j x ai=>?_
   obtain⟨y,ax,rfl⟩:=ht id ai;exact aQ j y ax
  |ptr k off c ao ak=>
   simp only[ep]
   split
   ·exact .top _
   ·rename_i aj
    refine .ptr k off c ao fun t cs bc=>?_
    rw[cJ _ _ aj];rw[ag k aj]at bc
    cases ah:aE s.heap k with
    |none=>simp[ah]at bc
    |some p=>
     cases p with
     |box bs cs'=>exact ak bs cs' ah
     |row=>simp[ah,eb]at bc
     |bY=>simp[ah,eb]at bc
  |dB k off c ao ak=>
   simp only[ep]
   split
   ·exact .top _
   ·rename_i aj
    refine .dB k off c ao fun t cs bc=>?_
    rw[cJ _ _ aj];rw[ag k aj]at bc
    cases ah:aE s.heap k with
    |none=>simp[ah]at bc
    |some p=>
     cases p with
     |box bs cs'=>exact ak bs cs' ah
     |row=>simp[ah,eb]at bc
     |bY=>simp[ah,eb]at bc
  |cE k i off c ao ak=>
   simp only[ep]
   split
   ·exact .top _
   ·rename_i aj
    refine .cE k i off c ao fun z t n es bc=>?_
    rw[cJ _ _ aj];rw[ag k aj]at bc
    cases ah:aE s.heap k with
    |none=>simp[ah]at bc
    |some p=>
     cases p with
     |box bs cs'=>simp[ah,eb]at bc
     |bY=>simp[ah,eb]at bc
     |row h5 bs cO eu=>
      simp only[ah,Option.map_some,eb,Option.some.injEq,ej.row.injEq]at bc;obtain⟨rfl,rfl,rfl,rfl⟩:=bc;exact ak _ _ _ _ ah
  |aN k c ao ak=>
   simp only[ep]
   split
   ·exact .top _
   ·rename_i aj
    refine .aN k c ao fun z t n es bc=>?_
    rw[cJ _ _ aj];rw[ag k aj]at bc
    cases ah:aE s.heap k with
    |none=>simp[ah]at bc
    |some p=>
     cases p with
     |box bs cs'=>simp[ah,eb]at bc
     |bY=>simp[ah,eb]at bc
     |row h5 bs cO eu=>exact ak _ _ _ _ ah
  |fn f p q c d aa ae _ _ gL gM=>
   refine .fn f _ _ c d (by rw[hH];exact aa) (by rw[hH];exact ae) (fun j x ai=>?_) (fun j x ai=>?_)
   ·obtain⟨y,ax,rfl⟩:=ht id ai
    exact gL j y ax
   ·obtain⟨y,ax,rfl⟩:=ht id ai
    exact gM j y ax
  |ref k c ao ak=>
   simp only[ep]
   split
   ·exact .top _
   ·rename_i aj
    refine .ref k c ao fun bE bc=>?_
    rw[cJ _ _ aj];rw[ag k aj]at bc
    cases ah:aE s.heap k with
    |none=>simp[ah]at bc
    |some p=>
     cases p with
     |box=>simp[ah,eb]at bc
     |row=>simp[ah,eb]at bc
     |bY lz=>exact ak lz ah
  |top c=>exact .top c
 have dE: ∀k p,k≠id→aE ((id,o)::dr id s.heap) k=some p→∃q,aE s.heap k=some q∧p=eb id q:=by
  intro k p aj bc;rw[ag k aj]at bc
  cases ah:aE s.heap k with
  |none=>simp[ah]at bc
  |some q=>simp[ah]at bc;exact⟨q,rfl,bc.symm⟩
 refine⟨h.defers,by simpa[hH]using h.size,fun i x hx=>?_,⟨fun k p aj=>?_,fun k bo p fF b aj ey ak gp a7 ea=>?_,fun b af=>?_,fun b af=>Nat.lt_of_lt_of_le (h.heap.lt b af) bJ⟩,
  h.hT.keep b6 fun _ h=>h,?_,h.base⟩
 ·obtain⟨y,ax,rfl⟩:=ht id hx
  exact key _ _ (h.slot i y ax)
 ·by_cases bk:k=id
  ·subst bk
   rw[tS]at aj;simp only[Option.some.injEq]at aj;subst aj;exact dq
  ·obtain⟨q,aJ,rfl⟩:=dE k p bk aj
   have gq:=h.heap.c4 k q aJ
   have cf:q.live=true→∀b,cb (β k)=some b→w'.heap[b]? =w.heap[b]? :=fun ao b a7=>
    hw b (gq.hk ao a7) fun jn=>bk (h.heap.inj k id q _ b aJ hid ao rfl a7 jn)
   cases gq with
   |box t cs b arr aa ae aq aT=>
    refine .box t _ b arr (by rw[cJ _ _ bk];exact aa) ((cf rfl b (by rw[aa];rfl)).trans ae) (by rw[hH];exact aq) fun j x ai=>?_
    obtain⟨y,ax,rfl⟩:=ht id ai;exact key _ _ (aT j y ax)
   |row t n es xs aa ae aq=>exact .row t n es xs (by rw[cJ _ _ bk];exact aa.keep (fun b ad=>cf rfl b ad) bJ) ae fun j x ai=>(aq j x ai).keep b6 fun _ h=>h
   |fQ t n es aa=>exact .fQ t n es (by rw[cJ _ _ bk];exact aa.keep b6 fun _ h=>h)
   |bY bE b o aa ae aq=>exact .bY bE b o (by rw[cJ _ _ bk];exact aa) ((cf rfl b aa).trans ae) (by rw[cJ _ _ bk];exact bE.mono _ _ _ _ (fun x c h=>h.keep b6 fun _ h=>h) aq)
 ·by_cases bk:k=id
  ·by_cases gr:bo=id
   ·rw[bk,gr]
   ·subst bk
    rw[ew]at a7;rw[cJ _ _ gr]at ea;obtain⟨q,aJ,rfl⟩:=dE bo fF gr ey;rw[iP]at gp
    have ae:=(h.heap.c4 bo q aJ).hk gp ea
    rcases gN b a7 with aa|aa
    ·exact(h.heap.inj bo k q _ b aJ hid gp rfl ea aa).symm
    ·omega
  ·obtain⟨q,aJ,rfl⟩:=dE k p bk aj
   rw[iP]at ak;rw[cJ _ _ bk]at a7
   by_cases gr:bo=id
   ·subst gr
    rw[ew]at ea
    have ae:=(h.heap.c4 k q aJ).hk ak a7
    rcases gN b ea with aa|aa
    ·exact h.heap.inj k bo q _ b aJ hid ak rfl a7 aa
    ·omega
   ·obtain⟨gx,tT,rfl⟩:=dE bo fF gr ey
    rw[iP]at gp;rw[cJ _ _ gr]at ea;exact h.heap.inj k bo q gx b aJ tT ak gp a7 ea
 ·rintro⟨k,p,aj,ak,a7⟩
  by_cases bk:k=id
  ·subst bk
   rw[ew]at a7
   rcases gN b a7 with aa|aa
   ·exact h.heap.ft b af ⟨k,_,hid,rfl,aa⟩
   ·have:=h.heap.lt b af;omega
  ·obtain⟨q,aJ,rfl⟩:=dE k p bk aj
   rw[iP]at ak;rw[cJ _ _ bk]at a7;exact h.heap.ft b af ⟨k,q,aJ,ak,a7⟩
 ·have t:=h.trans
  refine⟨om.trans t.os,oo.trans t.tape,ku.trans t.output,Nat.le_trans t.size bJ,fun b ir hq=>?_,t.iM,t.jL,?_,fun k aj p bc=>?_,fun k p bc=>?_,t.le⟩
  ·by_cases jn:cb (β id)=some b
   ·rcases t.gK b ⟨id,_,hid,rfl,jn⟩with hc|hc
    ·exact absurd hc hq
    ·omega
   ·rw[hw b (Nat.lt_of_lt_of_le ir t.size) jn]
    exact t.frame b ir hq
  ·rintro b ⟨k,p,aj,ak,a7⟩
   by_cases bk:k=id
   ·subst bk
    rw[ew]at a7
    rcases gN b a7 with aa|aa
    ·exact t.gK b ⟨k,_,hid,rfl,aa⟩
    ·exact .inr (Nat.le_trans t.size aa)
   ·obtain⟨q,aJ,rfl⟩:=dE k p bk aj
    rw[iP]at ak;rw[cJ _ _ bk]at a7;exact t.gK b ⟨k,q,aJ,ak,a7⟩
  ·have bk:k≠id:=by have:=h.base;omega
   obtain⟨q,aJ,rfl⟩:=dE k p bk bc;rw[cJ _ _ bk];exact t.dE k aj q aJ
  ·by_cases bk:k=id
   ·subst bk;exact bA
   ·obtain⟨q,aJ,rfl⟩:=dE k p bk bc
    exact t.new k q aJ
def chunk{α:Type}(n:Nat):Nat→List α→List (List α)
 |0,_=>[]
 |k+1,l=>l.take n::chunk n k (l.drop n)
theorem yx{α:Type}(n:Nat): ∀(k:Nat) (l:List α),(chunk n k l).length=k
 |0,_=>rfl
 |k+1,l=>by simp[chunk,yx n k]
theorem On{α:Type}(n:Nat): ∀(k:Nat) (l:List α),l.length=k*n→∀e∈chunk n k l,e.length=n
 |0,_,_,e,he=>by simp[chunk]at he
 |k+1,l,h,e,he=>by
  rw[Nat.succ_mul]at h;simp only[chunk,List.mem_cons]at he
  rcases he with rfl|he
  ·simp;omega
  ·exact On n k (l.drop n) (by simp;omega) e he
theorem Oo{α:Type}(n:Nat): ∀(k:Nat) (l:List α),l.length=k*n→(chunk n k l).flatten=l
 |0,l,h=>by
  have:l=[]:=List.eq_nil_of_length_eq_zero (by simpa using h)
  simp[chunk,this]
 |k+1,l,h=>by
  rw[Nat.succ_mul]at h;simp only[chunk,List.flatten_cons];rw[Oo n k (l.drop n) (by simp;omega),List.take_append_drop]
theorem kt.Hj{w:World}{t:TypeId}{n:Nat}{v:Value}{len:Nat}{xs:List Value}(h:w.ownsRow 0 t n v len xs):kt w t n v len xs:=by
 obtain⟨ao,af⟩:=h
 refine⟨ao,?_⟩
 rcases af with⟨aa,ae⟩|⟨g,cap,cur,av,_,ag,hle,iN,fu,aG⟩
 ·exact .inl ⟨⟨none,aa,fun _ h=>(by cases h)⟩,ae⟩
 ·by_cases hc:cap=0
  ·subst hc
   have:len=0:=by omega
   subst this;exact .inl ⟨⟨_,av,fun a aK=>(by cases aK;exact(Array.getElem?_eq_some_iff.1 ag).1)⟩,rfl⟩
  ·exact .inr ⟨g,cap,cur,av,by omega,ag,hle,iN,fu,aG⟩
def vM(P:Program)(G:aY)(o:Oper)(s:aM)(t:TypeId)(n:Nat)(es:List (List bd)):Prop:=
 (∀e∈es,e.length=n)∧∀E a w β ro,c6 E G s a w β ro→∃v xs w',(execOp a.eval o).run P w= .ok (.value v) w'∧w'.ownsRow 0 t n v es.length xs∧w.grownBy w' none∧(∀b,cb v=some b→w.heap.size≤b)∧
  ∀j x,es.flatten[j]? =some x→dp w ro x (xs.getD j undef)
theorem ee.newRow{o:Oper}{t:TypeId}{n:Nat}{es:List (List bd)}(ad:s.base≤s.next)(a8:vM P G o s t n es):
 ee P G o s ({s with heap:=(s.next,.row false t n es)::s.heap,next:=s.next+1}.put o.dst (.aN s.next)):=by
 obtain⟨hn,h⟩:=a8
 intro E a w ⟨β,ro,af⟩ K Q hK
 obtain⟨v,xs,w',cS,jm,cZ,gN,fe⟩:=h E a w β ro af
 unfold Oper.wp
 rw[cS]
 have k3:aE s.heap s.next=none:=by
  cases ag:aE s.heap s.next with
  |none=>rfl
  |some p=>have:=af.trans.new _ _ ag;omega
 have hw: ∀b,b<w.heap.size→w'.heap[b]? =w.heap[b]? :=fun b ad=>cZ.block b ad (by simp)
 have b6: ∀b,ro b→w'.heap[b]? =w.heap[b]? :=fun b ad=>hw b (af.heap.lt b ad)
 have ga:c6 E G {s with heap:=(s.next,.row false t n es)::s.heap,next:=s.next+1} a w' (hp β s.next v) ro:=by
  refine af.new s.next k3 ad (Nat.le_refl _) _ v cZ.os cZ.tape cZ.output cZ.size hw gN rfl ?_
  exact .row t n es xs (by rw[ew];exact .Hj jm) hn fun j x ai=>(fe j x ai).keep b6 fun _ h=>h
 refine hK _ _ ⟨_,ro,ga.put o.dst _ _ ?_⟩
 exact .aN _ _ (Nat.lt_succ_self _) fun z bs cO eu _=>(ew _ _ _).symm
theorem Xr{o:Oper}(t:TypeId)(len:Nat)(parts:Array (Nat × Operand))(an:o.op= .buildSlice t len parts){e n:Nat}(hu:P.underlying t=some (.slice e))(bJ:(P.info? e).map (·.size)=some n)
 {zs:List Value}(br:zeroCells P e=some zs)(rZ:zs.all Value.oneCell'=true)(l9:zs.length=n)(hlen:0<len*n∧len*n≤16777216)
 {ps:List (Nat × aD)}(qO:parts.toList.map (fun p=>(p.1,aI G s p.2))=ps)(dQ:ps.all (fun p=>(cy p.2).all (ek s.heap))=true)
 {ds:List aD}(hf:jQ (fun i=>some (i*n,n)) ((List.replicate len (zs.map fun z=>aD.au (.v z))).flatten) ps=some ds){rs:List bd}(qQ:iu ds=some rs):
 vM P G o s e n (chunk n len rs):=by
 have mV:ds.length=len*n:=by
  have: ∀(ps:List (Nat × aD)) (cs ds:List aD),jQ (fun i=>some (i*n,n)) cs ps=some ds→ds.length=cs.length:=by
   intro ps
   induction ps with
   |nil=>intro cs ds h;simp[jQ]at h;rw[h]
   |cons p r aQ=>
    intro cs ds h;obtain⟨i,v⟩:=p;simp only[jQ]at h
    split at h
    ·rename_i hc
     rw[aQ _ _ h,pr _ _ _ (by omega)]
    ·cases h
  rw[this ps _ _ hf,jM (n:=n) (fun e he=>by rw[List.mem_replicate]at he;rw[he.2];simpa using l9)]
  simp
 have Oq:rs.length=len*n:=by rw[←mV,Bz qQ];simp
 refine⟨On n len rs Oq,fun E a w β ro af=>?_⟩
 obtain⟨aa,ae⟩:=Hi af qO dQ
 obtain⟨z,l6,oq,_⟩:=yj br w
 have fe:(List.replicate len (zs.map fun z=>aD.au (.v z))).flatten.length=len*n:=by
  rw[jM (n:=n) (fun e he=>by rw[List.mem_replicate]at he;rw[he.2];simpa using l9)];simp
 have Xs:zs.toArray.size=n:=by simpa using l9
 have qR:0<n:=by
  rcases Nat.eq_zero_or_pos n with h|h
  ·rw[h]at hlen;simp at hlen
  ·exact h
 obtain⟨ys,g1,g2,g3⟩:=BL (place':=fun i=>some (i*n,n)) (fun _ _ h=>h) af.heap hf aa ae (xs:=(Array.range (len*n)).map fun x=>zs.toArray[x%zs.toArray.size]!) (by rw[fe];simp) (fun j x ai=>by
  have dP:j<len*n:=by rw[←fe];exact(List.getElem?_eq_some_iff.1 ai).1
  have hm:j=(j/ n)*n+j%n:=by rw[Nat.mul_comm];exact(Nat.div_add_mod j n).symm
  have nH:j%n<n:=Nat.mod_lt _ qR
  have nI:j/ n<len:=by rw[Nat.div_lt_iff_lt_mul qR];exact dP
  rw[hm,qA (n:=n) (fun e he=>by rw[List.mem_replicate]at he;rw[he.2];simpa using l9) (i:=j/ n) (e:=zs.map fun z=>aD.au (.v z)) (by simp[nI]) (j%n) nH]at ai
  have:=Hh (w:=w) (ro:=ro) (σ:=s.heap) (β:=β) (N:=s.next) rZ (j%n) x ai
  have ay:(Array.map (fun x=>zs.toArray[x%zs.toArray.size]!) (Array.range (len*n))).getD j undef=zs.toArray.getD (j%n) undef:=by
   have aq:j%n<zs.length:=by omega
   simp[dP,l9,List.getElem?_eq_getElem aq]
  rw[ay]
  exact this)
 have l4:ys.toList.length=(chunk n len rs).length*n:=by rw[yx];simpa[mV]using g2
 refine⟨.slice (some ⟨w.heap.size,0,none⟩) len len,ys.toList,w.alloc (.cells ys e),?_,?_,World.grownBy_alloc w _ none,fun b a7=>?_,fun j x ai=>?_⟩
 ·have yy:(sizeOf e).run P w= .ok n w:=by
   cases hi:P.info? e with
   |none=>simp[hi]at bJ
   |some i=>simp[hi]at bJ;simp[sizeOf,typeInfo,hi,bJ]
  have cf: ¬len*n>2^24:=by omega
  have kA: ¬len*n=0:=by omega
  simp only[execOp,an,Sem.run_bind,Instr.buildSlice,run_underlying hu,Result.andThen_ok,yy,if_neg cf,if_neg kA,l6,Sem.run_pure,oq]
  erw [g1]
  simp[newRow]
 ·rw[yx]
  exact World.ownsRow_lit w ys len (Nat.zero_le _) (by simp only[maxLen];have:=Nat.le_mul_of_pos_right len qR;omega) (by simpa[mV]using g2)
 ·simp only[cb]at a7
  split at a7
  ·cases a7
  ·simp at a7;omega
 ·rw[Oo n len rs Oq]at ai
  have aq:=g3 j (.au x) (by rw[Bz qQ];simp[ai])
  cases aq with
  |au _ _ aq=>
   have:ys.toList.getD j undef=ys.getD j undef:=by simp[List.getD,Array.getD_eq_getD_getElem?]
   rw[this];exact aq
end
end Go.aL
