/- The AV calculus, part G: code, loops, the beginning and the end of a call. Conditions: none. -/
import Derived.Test.YtmkpmgfieagphaaGreatDoorRSMf
namespace Go.aM
open Go
def lift(E:Entry)(G:a7)(Q:Exit→aN→Prop):Exit→Act→World→Prop:=fun e a w=>∃s,Q e s∧Rel E G s a w
def bY(P:Program)(G:a7)(c:Code)(Q:Exit→aN→Prop)(s:aN):Prop:=∀E a w,Rel E G s a w→c.wp P (lift E G Q) a w
def cp(P:Program)(G:a7)(ops:Array Oper)(Q:Exit→aN→Prop)(l:List Oper)(s:aN):Prop:=∀E a w,Rel E G s a w→wpList P ops (lift E G Q) l a w
section
variable {P:Program} {G:a7} {Q:Exit→aN→Prop} {s:aN}
theorem bY.region{id:Nat}{l:List Oper}(h:cp P G l.toArray Q l s):bY P G (.region id l.toArray false) Q s:=fun E a w af=>wp_region_lit (h E a w af)
theorem cp.nil{ops:Array Oper}(h:Q .normal s):cp P G ops Q [] s:=fun _ _ _ af=>wpList_nil ⟨s,h,af⟩
theorem cp.cons{ops:Array Oper}{o:Oper}{rest:List Oper}{bm:aN}(ah:o.guard=none)(h:eh P G o s bm)(k:cp P G ops Q rest bm):cp P G ops Q (o::rest) s:=
 fun E a w af=>wpList_plain ah fun _ hK=>h E a w af _ _ fun aY w' dW=>hK aY w' (k E aY w' dW)
def mb(ops:Array Oper)(j:Nat):Option Nat:=(ops[j]?).bind (·.dst)
theorem Hu{ops:Array Oper}{E:Entry}{a:Act}{w:World}(af:Rel E G s a w){j d:Nat}(ai:mb ops j=some d){b:Bool}(hd:s.cE[d]? =some (.au (.v (.bool b)))):yielded ops a.tmps j=some b:=by
 obtain⟨β,ro,h⟩:=af
 have ag:=bs.val (h.slot d _ hd)
 have bB:d<a.tmps.size:=by rw[h.size];exact(List.getElem?_eq_some_iff.1 hd).1
 unfold mb at ai
 unfold yielded
 rw[ai]
 simp only[Option.bind_some]
 simp[bB]at ag
 simp[bB,ag]
theorem OI{ops:Array Oper}{E:Entry}{a:Act}{w:World}(af:Rel E G s a w){j d:Nat}(ai:mb ops j=some d){cs:List aE}(hd:s.cE[d]? =some (.tuple cs)):yielded ops a.tmps j=none:=by
 obtain⟨β,ro,h⟩:=af
 have ag:=h.slot d _ hd
 have bB:d<a.tmps.size:=by rw[h.size];exact(List.getElem?_eq_some_iff.1 hd).1
 unfold mb at ai
 unfold yielded
 rw[ai]
 simp only[Option.bind_some]
 simp[bB]at ag
 generalize a.tmps[d]=c at ag
 have aL:a.tmps[d]? =some a.tmps[d]:=by simp[bB]
 have ag:=h.slot d _ hd
 simp[bB]at ag
 cases e8:a.tmps[d]with
 |tuple x=>simp[aL,e8]
 |_=>rw[e8]at ag;cases ag
theorem cp.guarded{ops:Array Oper}{o:Oper}{rest:List Oper}{bm:aN}{j d:Nat}{b:Bool}(ah:o.guard=some (j,b))(ai:mb ops j=some d)(hd:s.cE[d]? =some (.au (.v (.bool b))))
 (h:eh P G o s bm)(k:cp P G ops Q rest bm):cp P G ops Q (o::rest) s:=
 fun E a w af=>wpList_step fun _ hK=>by
  have az:=Hu af ai hd
  simp only[Region.wanted,ah,az,beq_self_eq_true,if_true];exact h E a w af _ _ fun aY w' dW=>hK aY w' (k E aY w' dW)
theorem Rel.B0{E:Entry}{a:Act}{w:World}(af:Rel E G s a w)(dst:Option Nat):Rel E G (s.put dst (.tuple [])) (a.put dst undef) w:=by
 obtain⟨β,ro,h⟩:=af
 exact⟨β,ro,h.put dst _ _ (.tuple _ _ rfl (by simp))⟩
theorem cp.X1{ops:Array Oper}{o:Oper}{rest:List Oper}{j d:Nat}{b:Bool}(ah:o.guard=some (j,b))(ai:mb ops j=some d)(hd:s.cE[d]? =some (.au (.v (.bool (!b)))))
 (k:cp P G ops Q rest (s.put o.dst (.tuple []))):cp P G ops Q (o::rest) s:=
 fun E a w af=>by
  have az:=Hu af ai hd
  refine wpList_skip ?_ (k E _ w (af.B0 o.dst))
  simp only[Region.wanted,ah,az]
  cases b<;>rfl
theorem cp.X2{ops:Array Oper}{o:Oper}{rest:List Oper}{j d:Nat}{b:Bool}(ah:o.guard=some (j,b))(ai:mb ops j=some d){cs:List aE}(hd:s.cE[d]? =some (.tuple cs))
 (k:cp P G ops Q rest (s.put o.dst (.tuple []))):cp P G ops Q (o::rest) s:=
 fun E a w af=>by
  have az:=OI af ai hd
  refine wpList_skip ?_ (k E _ w (af.B0 o.dst))
  simp only[Region.wanted,ah,az]
  cases b<;>rfl
def X3(P:Program)(G:a7)(c:Code)(Q:Exit→aN→Prop):Exit→aN→Prop
 | .normal,s=>bY P G c Q s
 |e,s=>Q e s
theorem bY.seq{x y:Code}(h:bY P G x (X3 P G y Q) s):bY P G (.seq x y) Q s:=fun E a w af=>by
 refine wp_seq (wp_mono (h E a w af) fun e aY w' aL=>?_)
 obtain⟨bm,aa,ad⟩:=aL
 cases e with
 |normal=>exact aa E aY w' ad
 |_=>exact⟨bm,aa,ad⟩
theorem bY.cond{x:Operand}{c d:Code}{b:Bool}(hx:aJ G s x= .au (.v (.bool b)))(aG:b=true→bY P G c Q s)(hf:b=false→bY P G d Q s):bY P G (.cond x c d) Q s:=fun E a w af=>by
 obtain⟨β,ro,h⟩:=af
 exact wp_cond_split (h.ep hx) (fun e=>aG e E a w ⟨β,ro,h⟩) (fun e=>hf e E a w ⟨β,ro,h⟩)
theorem bY.OJ{x:Operand}{c d:Code}(hx:aJ G s x= .au (.v (.bool true)))(aG:bY P G c Q s):bY P G (.cond x c d) Q s:=bY.cond hx (fun _=>aG) (fun h=>by cases h)
theorem bY.OK{x:Operand}{c d:Code}(hx:aJ G s x= .au (.v (.bool false)))(hf:bY P G d Q s):bY P G (.cond x c d) Q s:=bY.cond hx (fun h=>by cases h) (fun _=>hf)
theorem bY.skip(h:Q .normal s):bY P G .skip Q s:=fun _ _ _ af=>wp_skip ⟨s,h,af⟩
theorem bY.ret(h:Q .ret s):bY P G .ret Q s:=fun _ _ _ af=>wp_ret ⟨s,h,af⟩
theorem bY.exit{id:Nat}(h:Q (.exit id) s):bY P G (.exit id) Q s:=fun _ _ _ af=>wp_exit ⟨s,h,af⟩
theorem bY.mono{c:Code}{Q':Exit→aN→Prop}(h:bY P G c Q s)(aL: ∀e s,Q e s→Q' e s):bY P G c Q' s:=fun E a w af=>
 wp_mono (h E a w af) fun e _ _ ⟨bm,aa,ad⟩=>⟨bm,aL e bm aa,ad⟩
def OL(id:Nat)(Q:Exit→aN→Prop):Exit→aN→Prop
 | .exit gM,s=>bif Nat.beq gM id then Q .normal s else Q (.exit gM) s
 |e,s=>Q e s
theorem bY.block{id:Nat}{c:Code}(h:bY P G c (OL id Q) s):bY P G (.block id c) Q s:=fun E a w af=>by
 refine wp_block (wp_mono (h E a w af) fun e aY w' aL=>?_)
 obtain⟨bm,aa,ad⟩:=aL
 cases e with
 |exit gM=>
  simp only[OL,Exit.inBlock]at*
  split
  ·rename_i he
   have ae:Nat.beq gM id=true:=by simpa using he
   rw[ae]at aa;exact⟨bm,aa,ad⟩
  ·rename_i he
   have ae:Nat.beq gM id=false:=by
    cases aL:Nat.beq gM id with
    |false=>rfl
    |true=>exact absurd (Nat.eq_of_beq_eq_true aL) he
   rw[ae]at aa;exact⟨bm,aa,ad⟩
 |_=>exact⟨bm,aa,ad⟩
def cO(s bm:aN):Prop:=∀E (G:a7) a w,Rel E G s a w→Rel E G bm a w
theorem cO.refl(s:aN):cO s s:=fun _ _ _ _ h=>h
theorem cO.trans{s bm OM:aN}(h:cO s bm)(k:cO bm OM):cO s OM:=fun E G a w af=>k E G a w (h E G a w af)
theorem bY.le{c:Code}{bm:aN}(h:cO s bm)(k:bY P G c Q bm):bY P G c Q s:=fun E a w af=>k E a w (h E G a w af)
theorem cp.le{ops:Array Oper}{l:List Oper}{bm:aN}(h:cO s bm)(k:cp P G ops Q l bm):cp P G ops Q l s:=fun E a w af=>k E a w (h E G a w af)
theorem bY.loop{ι:Type}(st:ι→aN)(inv:ι→Prop)(mu:ι→Nat){c:Code}(x:ι)(aU:cO s (st x))(hi:inv x)
    (round: ∀x,inv x→bY P G c (fun e bm=>match e with
      | .normal=>∃y,inv y∧mu y<mu x∧cO bm (st y)
      |e=>Q e bm) (st x)):bY P G (.loop c) Q s:=fun E a w af=>by
  have key: ∀n x,mu x=n→inv x→∀a w,Rel E G (st x) a w→(Code.loop c).wp P (lift E G Q) a w:=by
    intro n x hn hx a w af;refine wp_loop (fun a w=>∃y,inv y∧Rel E G (st y) a w) (fun a w=>Classical.epsilon fun m=>∃y,inv y∧Rel E G (st y) a w∧mu y=m∧∀z,inv z→Rel E G (st z) a w→m≤mu z) ⟨x,hx,af⟩ ?_
    intro a w ⟨eb,BZ,X4⟩
    have hex: ∃m,∃y,inv y∧Rel E G (st y) a w∧mu y=m∧∀z,inv z→Rel E G (st z) a w→m≤mu z:=by
      have: ∀k y,mu y=k→inv y→Rel E G (st y) a w→∃m,∃y,inv y∧Rel E G (st y) a w∧mu y=m∧∀z,inv z→Rel E G (st z) a w→m≤mu z:=by
        intro k
        induction k using Nat.strongRecOn with
        |_ k aR=>
          intro y aj az yA
          by_cases qP: ∀z,inv z→Rel E G (st z) a w→mu y≤mu z
          · exact⟨mu y,y,az,yA,rfl,qP⟩
          · simp only[Classical.not_forall]at qP
            obtain⟨z,bu,mc,bB⟩:=qP;exact aR (mu z) (by omega) z rfl bu mc
      exact this _ eb rfl BZ X4
    obtain⟨y,az,yA,X5,_⟩:=Classical.epsilon_spec hex;refine wp_mono (round y az E a w yA) fun e aY w' aL=>?_
    obtain⟨bm,aa,ad⟩:=aL
    cases e with
    |normal=>
      obtain⟨z,bu,bB,hle⟩:=aa
      have mc:=hle E G aY w' ad
      refine⟨⟨z,bu,mc⟩,?_⟩
      have X6: ∃m,∃y,inv y∧Rel E G (st y) aY w'∧mu y=m∧∀z,inv z→Rel E G (st z) aY w'→m≤mu z:=by
        have: ∀k y,mu y=k→inv y→Rel E G (st y) aY w'→∃m,∃y,inv y∧Rel E G (st y) aY w'∧mu y=m∧∀z,inv z→Rel E G (st z) aY w'→m≤mu z:=by
          intro k
          induction k using Nat.strongRecOn with
          |_ k aR=>
            intro y aj az yA
            by_cases qP: ∀z,inv z→Rel E G (st z) aY w'→mu y≤mu z
            · exact⟨mu y,y,az,yA,rfl,qP⟩
            · simp only[Classical.not_forall]at qP
              obtain⟨z,bu,mc,bB⟩:=qP;exact aR (mu z) (by omega) z rfl bu mc
        exact this _ z rfl bu mc
      obtain⟨_,_,_,_,qP⟩:=Classical.epsilon_spec X6
      have aq:=qP z bu mc
      rw[←X5];exact Nat.lt_of_le_of_lt aq bB
    |_=>exact⟨bm,aa,ad⟩
  exact key _ x rfl hi a w (aU E G a w af)
end
def dO(P:Program)(G:a7)(f:FuncId)(args:List aE)(σ:bA)(n:Nat)(Q:aE→bA→Prop):Prop:=
 ∀w β ro (eM:Array Value),eM.size=args.length→(∀i x,args[i]? =some x→bs w ro σ β n x (eM.getD i undef))→ho w ro σ β n→p6 w ro G→(∀id o,aF σ id=some o→id<n)→
  Calls P f eM w fun e w'=>∃v r ff dV ro' cR,e= .returned v∧Q r ff∧bs w' ro' ff dV cR r v∧ho w' ro' ff dV cR∧Trans ⟨w,ro,σ,β,n⟩ w' ro' ff dV cR
def mY(P:Program)(s:aN):List ResultVar→Option (List aE)
 |[]=>some []
 | .tmp t::r=>match mY P s r with
  |some l=>some (s.cE.getD t .top::l)
  |none=>none
 | .cell p t::r=>match mY P s r,fj s.heap (s.cE.getD p .top)with
  |some l,some cs=>match l8 P t with
   |some n=>if n≤cs.length∧0<n then some (.agg (cs.take n)::l)else none
   |none=>if scalar P t then match cs with
    |y::_=>some (y::l)
    |[]=>none
    else none
  |_,_=>none
def yB(P:Program)(fn:Func)(s:aN):Option aE:=
 match mY P s fn.results.toList with
 |some [x]=>some x
 |some l=>some (.tuple l)
 |none=>none
def X7(P:Program)(fn:Func)(Q:aE→bA→Prop):Exit→aN→Prop:=fun e s=>
 (e= .normal∨e= .ret)∧∃r ff,yB P fn s=some r∧(∀id o,aF ff id=some o→aF s.heap id=some o)∧Q r ff
theorem ho.sub{w:World}{ro:Nat→Prop}{σ ff:bA}{β:Nat→Value}{N:Nat}(h:ho w ro σ β N)(ag: ∀id o,aF ff id=some o→aF σ id=some o):ho w ro ff β N:=by
 refine⟨fun id o ah=>(h.c7 id o (ag id o ah)).keep (fun _ _=>rfl) (fun _ h=>h) (Nat.le_refl _) (Nat.le_refl _) rfl (fun _ _ _=>rfl) (fun id t cs ah=>⟨rfl,t,cs,ag id _ ah⟩) (fun id z t n es ah=>⟨rfl,z,t,es,ag id _ ah⟩) (fun id bF ah=>⟨rfl,bF,ag id _ ah⟩),
  fun id gM o cm b aa ad=>h.inj id gM o cm b (ag id o aa) (ag gM cm ad),fun b ae ⟨id,o,ah,ao,bc⟩=>h.fz b ae ⟨id,o,ag id o ah,ao,bc⟩,h.lt⟩
theorem bs.sub{w:World}{ro:Nat→Prop}{σ ff:bA}{β:Nat→Value}{N:Nat}{x:aE}{c:Value}(h:bs w ro σ β N x c)(ag: ∀id o,aF ff id=some o→aF σ id=some o):bs w ro ff β N x c:=
 h.keep (fun _ _=>rfl) (fun _ h=>h) (Nat.le_refl _) (fun id t cs ah=>⟨rfl,t,cs,ag id _ ah⟩) (fun id z t _ es ah=>⟨rfl,z,t,es,ag id _ ah⟩) (fun id bF ah=>⟨rfl,bF,ag id _ ah⟩)
theorem Trans.sub{E:Entry}{w:World}{ro:Nat→Prop}{σ ff:bA}{β:Nat→Value}{n:Nat}(h:Trans E w ro σ β n)(ag: ∀id o,aF ff id=some o→aF σ id=some o):Trans E w ro ff β n:=
 ⟨h.os,h.tape,h.output,h.size,h.frame,h.iR,h.jR,fun b ⟨id,o,ah,ao,bc⟩=>h.gN b ⟨id,o,ag id o ah,ao,bc⟩,fun id hi o ah=>h.dK id hi o (ag id o ah),fun id o ah=>h.new id o (ag id o ah),h.le⟩
section
variable {P:Program} {G:a7}
def ue(tmps:Array Value):ResultVar→Sem Value
 | .tmp t=>pure (tmps.getD t undef)
 | .cell p t=>do
  let b ←asAddr (tmps.getD p undef)
  loadVar t b
theorem X8(fn:Func)(tmps:Array Value):results fn tmps=(do
    let vs ←fn.results.mapM (ue tmps)
    pure (if h:vs.size=1 then vs[0]else .tuple vs)):=by
  unfold results
  have:(fun x=>match x with
      |ResultVar.tmp t=>(pure (tmps.getD t undef):Sem Value)
      |ResultVar.cell p t=>do
        let b ←asAddr (tmps.getD p undef)
        loadVar t b)=ue tmps:=by
    funext x
    cases x<;>rfl
  rw[←this];rfl
theorem Hv{E:Entry}{s:aN}{a:Act}{w:World}{β:Nat→Value}{ro:Nat→Prop}(h:c9 E G s a w β ro): ∀{rs:List ResultVar} {l:List aE},mY P s rs=some l→
 ∃vs:List Value,(rs.mapM (ue a.tmps)).run P w= .ok vs w∧vs.length=l.length∧∀j x,l[j]? =some x→bs w ro s.heap β s.next x (vs.getD j undef)
 |[],l,ao=>by
  simp[mY]at ao;subst ao;exact⟨[],by simp,rfl,by simp⟩
 | .tmp t::r,l,ao=>by
  simp only[mY]at ao
  cases af:mY P s r with
  |none=>simp[af]at ao
  |some eW=>
   simp only[af,Option.some.injEq]at ao;subst ao;obtain⟨vs,aa,ad,aq⟩:=Hv h af;refine⟨a.tmps.getD t undef::vs,by simp only[List.mapM_cons,Sem.run_bind,ue,Sem.run_pure,Result.andThen_ok,aa],by simp[ad],fun j x ai=>?_⟩
   cases j with
   |zero=>
    simp at ai;subst ai;exact h.eval (.tmp t)
   |succ j=>exact aq j x ai
 | .cell p t::r,l,ao=>by
  simp only[mY]at ao
  cases af:mY P s r with
  |none=>simp[af]at ao
  |some eW=>
   cases hc:fj s.heap (s.cE.getD p .top)with
   |none=>rw[af,hc]at ao;cases ao
   |some cs=>
    rw[af,hc]at ao;simp only at ao;obtain⟨vs,aa,ad,aq⟩:=Hv h af
    have kD:=h.eval (.tmp p)
    simp only[aJ,Act.eval]at kD
    cases bG:l8 P t with
    |some n=>
     simp only[bG]at ao
     split at ao
     ·rename_i hn
      simp only[Option.some.injEq]at ao;subst ao;obtain⟨cS,uf,f,hf⟩:=vK h.heap hc kD (by intro e;subst e;simp at hn;omega)
      obtain⟨g1,g2⟩:=BT bG w
      have me:=run_loadCells (P:=P) w cS n f (fun j ai=>(hf j (cs[j]'(by omega)) (by simp)).1)
      refine⟨.agg ((List.range n).map f).toArray::vs,?_,by simp[ad],fun j x ai=>?_⟩
      ·simp only[List.mapM_cons,Sem.run_bind,ue,uf,asAddr,Sem.run_pure,Result.andThen_ok,loadVar,g1,g2,if_true,me,aa]
      ·cases j with
       |zero=>
        simp at ai;subst ai;refine .agg _ _ (by simp;omega) fun j y ai=>?_
        rw[List.getElem?_take]at ai
        split at ai
        ·have:=(hf j y ai).2
         rename_i ov;simpa[ov]using this
        ·cases ai
       |succ j=>exact aq j x ai
     ·cases ao
    |none=>
     simp only[bG]at ao
     split at ao
     ·rename_i hsc
      cases cs with
      |nil=>simp at ao
      |cons y cs'=>
       simp only[Option.some.injEq]at ao;subst ao;obtain⟨cS,uf,f,hf⟩:=vK h.heap hc kD (by simp)
       have g1:=yo hsc w
       obtain⟨k5,dp⟩:=hf 0 y rfl;rw[show cS.add 0=cS from by simp[Addr.add]]at k5
       refine⟨f 0::vs,?_,by simp[ad],fun j x ai=>?_⟩
       ·simp only[List.mapM_cons,Sem.run_bind,ue,uf,asAddr,Sem.run_pure,Result.andThen_ok,loadVar,g1]
        simp[run_load,k5,aa]
       ·cases j with
        |zero=>simp at ai;subst ai;exact dp
        |succ j=>exact aq j x ai
     ·cases ao
theorem X9{E:Entry}{s:aN}{a:Act}{w:World}{β:Nat→Value}{ro:Nat→Prop}(h:c9 E G s a w β ro){fn:Func}{r:aE}(af:yB P fn s=some r):
 ∃v,(results fn a.tmps).run P w= .ok v w∧bs w ro s.heap β s.next r v:=by
 unfold yB at af
 cases aI:mY P s fn.results.toList with
 |none=>simp[aI]at af
 |some l=>
  rw[aI]at af;obtain⟨vs,aa,ad,aq⟩:=Hv h aI
  have hm:(fn.results.mapM (ue a.tmps)).run P w= .ok vs.toArray w:=by
   rw[Array.mapM_eq_mapM_toList];simp only[Sem.run_map,aa]
   first|rfl|simp
  have qQ:(results fn a.tmps).run P w= .ok (if h:vs.toArray.size=1 then vs.toArray[0]else .tuple vs.toArray) w:=by
   rw[X8,Sem.run_bind,hm];rfl
  refine⟨_,qQ,?_⟩
  match l,aI,af,ad,aq with
  |[x],_,af,ad,aq=>
   injection af with af
   subst af
   have AQ:vs.toArray.size=1:=by simpa using ad
   rw[dif_pos AQ]
   have:=aq 0 x rfl
   have ON:0<vs.length:=by simp at AQ;omega
   simpa[List.getD,ON]using this
  |[],_,af,ad,aq=>
   injection af with af
   subst af
   have:vs=[]:=List.eq_nil_of_length_eq_zero (by simpa using ad)
   subst this;exact .tuple _ _ rfl (by simp)
  |x::y::eW,_,af,ad,aq=>
   injection af with af
   subst af;rw[dif_neg (by simp at ad⊢;omega)]
   refine .tuple _ _ (by simpa using ad) fun j z ai=>?_
   have:=aq j z ai
   simpa[List.getD,Array.getD_eq_getD_getElem?]using this
theorem dO.Ya{f:FuncId}{fn:Func}{c:Code}{args:List aE}{σ:bA}{n k:Nat}{Q:aE→bA→Prop}(hf:P.funcs[f]? =some fn)(ae:fn.body=some c)(aj:fn.ntmps-args.length=k)
 (h:bY P G c (X7 P fn Q) ⟨args++List.replicate k .top,σ,n,n⟩):dO P G f args σ n Q:=by
 intro w β ro eM bK h8 aX ah bB
 refine calls_of_wp hf ae (wp_mono (h ⟨w,ro,σ,β,n⟩ _ w ⟨β,ro,rfl,?_,?_,aX,ah,?_,Nat.le_refl _⟩) ?_)
 ·simp[bK,aj]
 ·intro i x hi
  simp only at hi
  by_cases Hw:i<args.length
  ·rw[List.getElem?_append_left Hw]at hi
   have:=h8 i x hi
   have aa:i<eM.size:=by omega
   simpa[Array.getElem?_append_left aa,aa,Array.getElem_append_left aa]using this
  ·rw[List.getElem?_append_right (by omega)]at hi
   rw[List.getElem?_replicate]at hi
   split at hi
   ·simp only[Option.some.injEq]at hi;subst hi;exact .top _
   ·cases hi
 ·exact⟨rfl,rfl,rfl,Nat.le_refl _,fun _ _ _=>rfl,fun _ h=>.inl h,fun _ h=>h,fun _ h=>.inl h,fun id _ o an=>⟨by rw[an];simp,rfl⟩,bB,Nat.le_refl _⟩
 ·intro e aY w' ⟨bm,aL,dV,ro',af⟩
  obtain⟨he,r,ff,qQ,gj,ei⟩:=aL;obtain⟨v,av,dp⟩:=X9 af qQ
  rcases he with rfl|rfl
  ·exact⟨af.defers,v,av,v,r,ff,dV,ro',bm.next,rfl,ei,dp.sub gj,af.heap.sub gj,af.trans.sub gj⟩
  ·exact⟨af.defers,v,av,v,r,ff,dV,ro',bm.next,rfl,ei,dp.sub gj,af.heap.sub gj,af.trans.sub gj⟩
end
end Go.aM
namespace Go.aM
open Go
mutual
def gk(n:Nat):aE→Bool
 | .au _=>true
 | .agg cs=>k7 n cs
 | .tuple cs=>k7 n cs
 | .ptr id _=>decide (id<n)
 | .dF id _=>decide (id<n)
 | .cH id _ _=>decide (id<n)
 | .aP id=>decide (id<n)
 | .fn _ p q=>k7 n p&&k7 n q
 | .ref id=>decide (id<n)
 | .top=>true
def k7(n:Nat):List aE→Bool
 |[]=>true
 |x::r=>gk n x&&k7 n r
end
theorem qR{n:Nat}: ∀{cs:List aE},k7 n cs=true→∀{j:Nat} {x:aE},cs[j]? =some x→gk n x=true
 |[],_,j,x,h=>by simp at h
 |y::r,ae,j,x,h=>by
  simp only[k7,Bool.and_eq_true]at ae
  cases j with
  |zero=>simp at h;subst h;exact ae.1
  |succ j=>simp at h;exact qR ae.2 h
theorem bs.lower{w:World}{ro:Nat→Prop}{σ:bA}{β:Nat→Value}{N oq:Nat}{x:aE}{c:Value}(h:bs w ro σ β N x c)(ae:gk oq x=true):bs w ro σ β oq x c:=by
 induction h with
 |au x c hx=>exact .au x c hx
 |agg cs c ag _ aR=>
  simp only[gk]at ae;exact .agg cs c ag fun j x ai=>aR j x ai (qR ae ai)
 |tuple cs c ag _ aR=>
  simp only[gk]at ae;exact .tuple cs c ag fun j x ai=>aR j x ai (qR ae ai)
 |ptr id off c ao ak=>exact .ptr id off c (by simpa[gk]using ae) ak
 |dF id off c ao ak=>exact .dF id off c (by simpa[gk]using ae) ak
 |cH id i off c ao ak=>exact .cH id i off c (by simpa[gk]using ae) ak
 |aP id c ao ak=>exact .aP id c (by simpa[gk]using ae) ak
 |fn f p q c d aa ad _ _ gO gP=>
  simp only[gk,Bool.and_eq_true]at ae;exact .fn f p q c d aa ad (fun j x ai=>gO j x ai (qR ae.1 ai)) (fun j x ai=>gP j x ai (qR ae.2 ai))
 |ref id c ao ak=>exact .ref id c (by simpa[gk]using ae) ak
 |top c=>exact .top c
def vP(σ:bA):List Nat→bA
 |[]=>[]
 |id::r=>match aF σ id with
  |some o=>(id,o)::vP σ r
  |none=>vP σ r
theorem Hx(σ:bA): ∀(ids:List Nat) (id:Nat) (o:en),aF (vP σ ids) id=some o→aF σ id=some o
 |[],id,o,h=>by simp[vP,aF]at h
 |k::r,id,o,h=>by
  simp only[vP]at h
  cases aj:aF σ k with
  |none=>rw[aj]at h;exact Hx σ r id o h
  |some p=>
   rw[aj]at h;simp only[aF]at h
   split at h
   ·rename_i he
    subst he;rw[aj];exact h
   ·exact Hx σ r id o h
def k8(n:Nat):bA→Bool
 |[]=>true
 |(id,.box _ cs)::r=>decide (id<n)&&k7 n cs&&k8 n r
 |(id,.row _ _ _ _)::r=>decide (id<n)&&k8 n r
 |(id,.b1 _)::r=>decide (id<n)&&k8 n r
theorem qS{n:Nat}: ∀{σ:bA},k8 n σ=true→∀{id:Nat} {o:en},aF σ id=some o→id<n∧∀t cs,o= .box t cs→k7 n cs=true
 |[],_,id,o,h=>by simp[aF]at h
 |(k,.box t cs)::r,ae,id,o,h=>by
  simp only[k8,Bool.and_eq_true,decide_eq_true_eq]at ae;simp only[aF]at h
  split at h
  ·rename_i he
   subst he;simp only[Option.some.injEq]at h;subst h;exact⟨ae.1.1,fun bw cs' he=>by cases he;exact ae.1.2⟩
  ·exact qS ae.2 h
 |(k,.row z t m es)::r,ae,id,o,h=>by
  simp only[k8,Bool.and_eq_true,decide_eq_true_eq]at ae;simp only[aF]at h
  split at h
  ·rename_i he
   subst he;simp only[Option.some.injEq]at h;subst h;exact⟨ae.1,fun bw cs' he=>by cases he⟩
  ·exact qS ae.2 h
 |(k,.b1 bF)::r,ae,id,o,h=>by
  simp only[k8,Bool.and_eq_true,decide_eq_true_eq]at ae;simp only[aF]at h
  split at h
  ·rename_i he
   subst he;simp only[Option.some.injEq]at h;subst h;exact⟨ae.1,fun bw cs' he=>by cases he⟩
  ·exact qS ae.2 h
mutual
def mZ(σ:bA):aE→aE
 | .aP id=>match aF σ id with
  |some (.row true _ n es)=>.au (.aP n es)
  |_=>.aP id
 | .agg cs=>.agg (mf σ cs)
 | .tuple cs=>.tuple (mf σ cs)
 | .fn f p q=>.fn f (mf σ p) (mf σ q)
 | .au x=>.au x
 | .ptr id off=>.ptr id off
 | .dF id off=>.dF id off
 | .cH id i off=>.cH id i off
 | .ref id=>.ref id
 | .top=>.top
def mf(σ:bA):List aE→List aE
 |[]=>[]
 |x::r=>mZ σ x::mf σ r
end
theorem oC(σ:bA): ∀(l:List aE),(mf σ l).length=l.length
 |[]=>rfl
 |x::r=>by simp[mf,oC σ r]
theorem oD(σ:bA): ∀{l:List aE} {j:Nat} {x:aE},(mf σ l)[j]? =some x→∃y,l[j]? =some y∧x=mZ σ y
 |[],j,x,h=>by simp[mf]at h
 |y::r,j,x,h=>by
  cases j with
  |zero=>simp[mf]at h;exact⟨y,by simp,h.symm⟩
  |succ j=>simp[mf]at h;simpa using oD σ h
theorem Yb{w:World}{ro:Nat→Prop}{σ:bA}{β:Nat→Value}{N:Nat}(aX:ho w ro σ β N){x:aE}{c:Value}(h:bs w ro σ β N x c):bs w ro σ β N (mZ σ x) c:=by
 induction h with
 |aP id c ao ak=>
  simp only[mZ]
  split
  ·rename_i t n es ah
   rw[ak true t n es ah]
   have:=aX.c7 id _ ah
   cases this with
   |fV _ _ _ aa=>exact .au _ _ aa
  ·exact .aP id c ao ak
 |au x c h=>exact .au x c h
 |agg cs c aa _ aR=>
  refine .agg _ c (by rw[oC];exact aa) fun j x ai=>?_
  obtain⟨y,az,rfl⟩:=oD σ ai;exact aR j y az
 |tuple cs c aa _ aR=>
  refine .tuple _ c (by rw[oC];exact aa) fun j x ai=>?_
  obtain⟨y,az,rfl⟩:=oD σ ai;exact aR j y az
 |ptr id off c aa ad=>exact .ptr id off c aa ad
 |dF id off c aa ad=>exact .dF id off c aa ad
 |cH id i off c aa ad=>exact .cH id i off c aa ad
 |fn f p q c d aa ad _ _ gO gP=>
  refine .fn f _ _ c d (by rw[oC];exact aa) (by rw[oC];exact ad) (fun j x ai=>?_) (fun j x ai=>?_)
  ·obtain⟨y,az,rfl⟩:=oD σ ai
   exact gO j y az
  ·obtain⟨y,az,rfl⟩:=oD σ ai
   exact gP j y az
 |ref id c aa ad=>exact .ref id c aa ad
 |top c=>exact .top c
mutual
def fl:aE→Bool
 | .au _=>true
 | .agg cs=>eP cs
 | .tuple cs=>eP cs
 | .fn _ p q=>eP p&&eP q
 | .top=>true
 | .ptr _ _=>false
 | .dF _ _=>false
 | .cH _ _ _=>false
 | .aP _=>false
 | .ref _=>false
def eP:List aE→Bool
 |[]=>true
 |x::r=>fl x&&eP r
end
theorem na: ∀{cs:List aE},eP cs=true→∀{j:Nat} {x:aE},cs[j]? =some x→fl x=true
 |[],_,j,x,h=>by simp at h
 |y::r,ae,j,x,h=>by
  simp only[eP,Bool.and_eq_true]at ae
  cases j with
  |zero=>simp at h;subst h;exact ae.1
  |succ j=>simp at h;exact na ae.2 h
theorem B1(l:List bh):eP (l.map .au)=true:=by
 induction l with
 |nil=>rfl
 |cons x r aR=>simp[eP,fl,aR]
theorem nP{w:World}{ro:Nat→Prop}{σ bQ:bA}{β yC:Nat→Value}{N M:Nat}{x:aE}{c:Value}(h:bs w ro σ β N x c)(ak:fl x=true):bs w ro bQ yC M x c:=by
 induction h with
 |au x c h=>exact .au x c h
 |agg cs c aa _ aR=>
  simp only[fl]at ak;exact .agg cs c aa fun j x ai=>aR j x ai (na ak ai)
 |tuple cs c aa _ aR=>
  simp only[fl]at ak;exact .tuple cs c aa fun j x ai=>aR j x ai (na ak ai)
 |fn f p q c d aa ad _ _ gO gP=>
  simp only[fl,Bool.and_eq_true]at ak;exact .fn f p q c d aa ad (fun j x ai=>gO j x ai (na ak.1 ai)) (fun j x ai=>gP j x ai (na ak.2 ai))
 |top c=>exact .top c
 |ptr=>simp[fl]at ak
 |dF=>simp[fl]at ak
 |cH=>simp[fl]at ak
 |aP=>simp[fl]at ak
 |ref=>simp[fl]at ak
mutual
def pA(d:Nat):aE→aE
 | .au x=>.au x
 | .agg cs=>.agg (lG d cs)
 | .tuple cs=>.tuple (lG d cs)
 | .ptr id off=>.ptr (d+id) off
 | .dF id off=>.dF (d+id) off
 | .cH id i off=>.cH (d+id) i off
 | .aP id=>.aP (d+id)
 | .fn f p q=>.fn f (lG d p) (lG d q)
 | .ref id=>.ref (d+id)
 | .top=>.top
def lG(d:Nat):List aE→List aE
 |[]=>[]
 |x::r=>pA d x::lG d r
end
def k9(d:Nat):bA→bA
 |[]=>[]
 |(id,.box t cs)::r=>(d+id,.box t (lG d cs))::k9 d r
 |(id,.row z t n es)::r=>(d+id,.row z t n es)::k9 d r
 |(id,.b1 bF)::r=>(d+id,.b1 bF)::k9 d r
def kE(d:Nat):en→en
 | .box t cs=>.box t (lG d cs)
 | .row z t n es=>.row z t n es
 | .b1 bF=>.b1 bF
theorem vQ(d:Nat): ∀(l:List aE),(lG d l).length=l.length
 |[]=>rfl
 |x::r=>by simp[lG,vQ d r]
theorem vR(d:Nat): ∀{l:List aE} {j:Nat} {x:aE},(lG d l)[j]? =some x→∃y,l[j]? =some y∧x=pA d y
 |[],j,x,h=>by simp[lG]at h
 |y::r,j,x,h=>by
  cases j with
  |zero=>simp[lG]at h;exact⟨y,by simp,h.symm⟩
  |succ j=>simp[lG]at h;simpa using vR d h
theorem OO(σ bQ:bA)(id:Nat):aF (σ++bQ) id=(aF σ id).or (aF bQ id):=by
 induction σ with
 |nil=>simp[aF]
 |cons p r aR=>
  obtain⟨k,o⟩:=p;simp only[List.cons_append,aF]
  split
  ·simp
  ·exact aR
theorem yD(d:Nat): ∀(σ:bA) (id:Nat),aF (k9 d σ) id=if d≤id then(aF σ (id-d)).map (kE d)else none
 |[],id=>by simp[k9,aF]
 |(k,.box t cs)::r,id=>by
  simp only[k9,aF,yD d r]
  by_cases aa:d+k=id
  ·have ad:d≤id:=by omega
   have aq:k=id-d:=by omega
   simp[ad,aq,kE]
  ·by_cases ad:d≤id
   ·have aq: ¬k=id-d:=by omega
    simp[aa,ad,aq]
   ·simp[aa,ad]
 |(k,.row z t n es)::r,id=>by
  simp only[k9,aF,yD d r]
  by_cases aa:d+k=id
  ·have ad:d≤id:=by omega
   have aq:k=id-d:=by omega
   simp[ad,aq,kE]
  ·by_cases ad:d≤id
   ·have aq: ¬k=id-d:=by omega
    simp[aa,ad,aq]
   ·simp[aa,ad]
 |(k,.b1 bF)::r,id=>by
  simp only[k9,aF,yD d r]
  by_cases aa:d+k=id
  ·have ad:d≤id:=by omega
   have aq:k=id-d:=by omega
   simp[ad,aq,kE]
  ·by_cases ad:d≤id
   ·have aq: ¬k=id-d:=by omega
    simp[aa,ad,aq]
   ·simp[aa,ad]
theorem bs.shift{w:World}{ro ro':Nat→Prop}{σ bQ:bA}{β yC:Nat→Value}{N M:Nat}{x:aE}{c:Value}(h:bs w ro σ β N x c)(cc: ∀b,ro b→ro' b)
 (Hy: ∀id o,aF bQ id=some o→id<M):
 bs w ro' (k9 M σ++bQ) (fun k=>if M≤k then β (k-M)else yC k) (M+N) (pA M x) c:=by
 have key: ∀id,aF (k9 M σ++bQ) (M+id)=(aF σ id).map (kE M):=by
  intro id;rw[OO,yD]
  have aa:M≤M+id:=by omega
  simp only[aa,if_true,Nat.add_sub_cancel_left]
  cases ag:aF σ id with
  |some o=>simp
  |none=>
   simp
   cases aG:aF bQ (M+id)with
   |none=>rfl
   |some o=>have:=Hy _ _ aG;omega
 induction h with
 |au x c hx=>exact .au x c (hx.keep (fun _ _=>rfl) cc)
 |agg cs c ag _ aR=>
  refine .agg _ c (by rw[vQ];exact ag) fun j x ai=>?_
  obtain⟨y,az,rfl⟩:=vR M ai;exact aR j y az
 |tuple cs c ag _ aR=>
  refine .tuple _ c (by rw[vQ];exact ag) fun j x ai=>?_
  obtain⟨y,az,rfl⟩:=vR M ai;exact aR j y az
 |ptr id off c ao ak=>
  refine .ptr _ off c (by omega) fun t cs ah=>?_
  rw[key]at ah;simp only[Nat.le_add_right,if_true,Nat.add_sub_cancel_left]
  cases ag:aF σ id with
  |none=>simp[ag]at ah
  |some o=>
   cases o with
   |box bw cs'=>exact ak bw cs' ag
   |row=>simp[ag,kE]at ah
   |b1=>simp[ag,kE]at ah
 |dF id off c ao ak=>
  refine .dF _ off c (by omega) fun t cs ah=>?_
  rw[key]at ah;simp only[Nat.le_add_right,if_true,Nat.add_sub_cancel_left]
  cases ag:aF σ id with
  |none=>simp[ag]at ah
  |some o=>
   cases o with
   |box bw cs'=>exact ak bw cs' ag
   |row=>simp[ag,kE]at ah
   |b1=>simp[ag,kE]at ah
 |cH id i off c ao ak=>
  refine .cH _ i off c (by omega) fun z t n es ah=>?_
  rw[key]at ah;simp only[Nat.le_add_right,if_true,Nat.add_sub_cancel_left]
  cases ag:aF σ id with
  |none=>simp[ag]at ah
  |some o=>
   cases o with
   |box bw cs'=>simp[ag,kE]at ah
   |b1=>simp[ag,kE]at ah
   |row h6 bw cR ez=>
    simp only[ag,Option.map_some,kE,Option.some.injEq,en.row.injEq]at ah;obtain⟨rfl,rfl,rfl,rfl⟩:=ah;exact ak _ _ _ _ ag
 |aP id c ao ak=>
  refine .aP _ c (by omega) fun z t n es ah=>?_
  rw[key]at ah;simp only[Nat.le_add_right,if_true,Nat.add_sub_cancel_left]
  cases ag:aF σ id with
  |none=>simp[ag]at ah
  |some o=>
   cases o with
   |box bw cs'=>simp[ag,kE]at ah
   |b1=>simp[ag,kE]at ah
   |row h6 bw cR ez=>exact ak _ _ _ _ ag
 |fn f p q c d aa ad _ _ gO gP=>
  refine .fn f _ _ c d (by rw[vQ];exact aa) (by rw[vQ];exact ad) (fun j x ai=>?_) (fun j x ai=>?_)
  ·obtain⟨y,az,rfl⟩:=vR M ai
   exact gO j y az
  ·obtain⟨y,az,rfl⟩:=vR M ai
   exact gP j y az
 |ref id c ao ak=>
  refine .ref _ c (by omega) fun bF ah=>?_
  rw[key]at ah;simp only[Nat.le_add_right,if_true,Nat.add_sub_cancel_left]
  cases ag:aF σ id with
  |none=>simp[ag]at ah
  |some o=>
   cases o with
   |box=>simp[ag,kE]at ah
   |row=>simp[ag,kE]at ah
   |b1 lC=>exact ak lC ag
 |top c=>exact .top c
def nb(P:Program)(f:FuncId):Bool:=
 match P.funcs[f]? with
 |some fn=>!(fn.name== "runtime.NumGoroutine")&&fn.body.isSome
 |none=>false
theorem B2{P:Program}{f:FuncId}(h:nb P f=true)(args:Array Value)(w:World):(callFunc f args).run P w= .ok (.enter f args) w:=by
 unfold nb at h
 split at h
 ·rename_i fn hf
  simp only[Bool.and_eq_true,Bool.not_eq_true']at h
  have ad:fn.body≠none:=by intro e;simp[e]at h
  have aq:fn.name≠ "runtime.NumGoroutine" :=by simpa using h.1
  simp[callFunc,hf,ad,aq]
 ·cases h
section
variable {P:Program} {G:a7} {s:aN} {Q:Exit→aN→Prop}
theorem l7.call{o:Oper}{x:Operand}{xs:Array Operand}{ts:Array TypeId}(an:o.op= .call {callee:=.value x,args:=xs,argTypes:=ts}){f:FuncId}(hx:aJ G s x= .fn (.func f) [] [])
 (gl:nb P f=true){args:List aE}(h8:xs.toList.map (fun y=>mZ s.heap (aJ G s y))=args)(oE:eP args=true){R:aE→bA→Prop}(hc:dO P G f args [] 0 R){K:Nat}{r:aE}{bQ:bA}
 (gG: ∀ew fm,R ew fm→ew=r∧fm=bQ)(Hz:gk K r=true)(B3:k8 K bQ=true)(ae:s.base≤s.next):
 l7 P G o s ({s with heap:=k9 s.next bQ++s.heap,next:=s.next+K}.put o.dst (pA s.next r)):=by
 intro E a w ⟨β,ro,h⟩ Yc Yd HA
 have jv:=h.eval x
 rw[hx]at jv
 generalize he:a.eval x=B4 at jv
 cases jv with
 |fn _ _ _ c d aa ad _ _=>
  have h4:c= #[]:=by simpa using aa
  have qT:d= #[]:=by simpa using ad
  subst h4 qT;unfold Oper.wp;simp only[execOp,an,resolve,he,Deferred.ofValue,Sem.run_bind,Sem.run_pure,Result.andThen_ok,invoke,Array.empty_append,Array.append_empty];rw[B2 gl]
  have hlen:xs.toList.length=args.length:=by have:=congrArg List.length h8;simpa using this
  have gR:=hc w β ro (xs.map a.eval) (by simpa using hlen) (fun i y az=>by
   have hi:(xs.toList.map (fun y=>mZ s.heap (aJ G s y)))[i]? =some y:=by rw[h8];exact az
   rw[List.getElem?_map]at hi
   cases HB:xs.toList[i]? with
   |none=>simp[HB]at hi
   |some z=>
    simp[HB]at hi
    have av:=Yb h.heap (h.eval z)
    rw[hi]at av
    have Ye:xs[i]? =some z:=by simpa using HB
    have kD:(xs.map a.eval).getD i undef=a.eval z:=by simp[Ye]
    rw[kD]
    exact nP av (na oE az)) ⟨by simp[aF],by simp[aF],fun b _ ⟨_,_,ah,_⟩=>by simp[aF]at ah,h.heap.lt⟩ h.hV (by simp[aF])
  refine Calls.mono gR fun e w' aL=>?_
  obtain⟨v,ew,fm,dV,ro',cR,rfl,Yf,dp,ht,ct⟩:=aL;obtain⟨rfl,rfl⟩:=gG ew fm Yf
  have jN: ∀b,¬Own ([]:bA) β b:=fun b ⟨_,_,ah,_⟩=>by simp[aF]at ah
  have lH: ∀b,b<w.heap.size→w'.heap[b]? =w.heap[b]? :=fun b ae=>ct.frame b ae (jN b)
  have qU:=dp.lower Hz
  have gi:=h.heap
  have HC:=fun id o ah=>h.trans.new id o ah
  have cc: ∀b,ro b→w'.heap[b]? =w.heap[b]? :=fun b ae=>lH b (h.heap.lt b ae)
  have nN: ∀k p b,aF s.heap k=some p→p.live=true→cf (β k)=some b→b<w.heap.size:=fun k p b aj ak bc=>(h.heap.c7 k p aj).hl ak bc
  have B5: ∀k p b,aF fm k=some p→p.live=true→cf (dV k)=some b→w.heap.size≤b:=by
   intro k p b aj ak bc
   rcases ct.gN b ⟨k,p,aj,ak,bc⟩with hc|hc
   ·exact absurd hc (jN b)
   ·exact hc

  have look: ∀id,aF (k9 s.next fm++s.heap) id=if s.next≤id then(aF fm (id-s.next)).map (kE s.next)else aF s.heap id:=by
   intro id;rw[OO,yD]
   by_cases hi:s.next≤id
   ·simp only[hi,if_true]
    cases ag:aF fm (id-s.next)with
    |some p=>simp
    |none=>
     simp
     cases aG:aF s.heap id with
     |none=>rfl
     |some p=>have:=HC _ _ aG;omega
   ·simp[hi]
  have up: ∀x c,bs w ro s.heap β s.next x c→bs w' (fun b=>ro b∨ro' b) (k9 s.next fm++s.heap) (fun k=>if s.next≤k then dV (k-s.next)else β k) (s.next+K) x c:=by
   intro x c hx
   induction hx with
   |au x c hx=>exact .au x c (hx.keep cc fun _ h=>.inl h)
   |agg cs c ag _ aR=>exact .agg cs c ag aR
   |tuple cs c ag _ aR=>exact .tuple cs c ag aR
   |ptr k off c ao ak=>
    have aj: ¬s.next≤k:=by omega
    exact .ptr k off c (by omega) fun t cs bg=>by rw[look,if_neg aj]at bg;simp only[aj,if_false];exact ak t cs bg
   |dF k off c ao ak=>
    have aj: ¬s.next≤k:=by omega
    exact .dF k off c (by omega) fun t cs bg=>by rw[look,if_neg aj]at bg;simp only[aj,if_false];exact ak t cs bg
   |cH k i off c ao ak=>
    have aj: ¬s.next≤k:=by omega
    exact .cH k i off c (by omega) fun z t n es bg=>by rw[look,if_neg aj]at bg;simp only[aj,if_false];exact ak z t n es bg
   |aP k c ao ak=>
    have aj: ¬s.next≤k:=by omega
    exact .aP k c (by omega) fun z t n es bg=>by rw[look,if_neg aj]at bg;simp only[aj,if_false];exact ak z t n es bg
   |fn f p q c d aa ad _ _ gO gP=>exact .fn f p q c d aa ad gO gP
   |ref k c ao ak=>
    have aj: ¬s.next≤k:=by omega
    exact .ref k c (by omega) fun bF bg=>by rw[look,if_neg aj]at bg;simp only[aj,if_false];exact ak bF bg
   |top c=>exact .top c
  have OP: ∀b,ro' b→ro b∨w.heap.size≤b:=fun b ae=>by
   rcases ct.iR b ae with h|h|h
   ·exact .inl h
   ·exact absurd h (jN b)
   ·exact .inr h
  refine HA _ _ ⟨fun k=>if s.next≤k then dV (k-s.next)else β k,fun b=>ro b∨ro' b,c9.put (s:={s with heap:=k9 s.next fm++s.heap,next:=s.next+K}) ⟨h.defers,h.size,fun i x hx=>up _ _ (h.slot i x hx),⟨fun id p ah=>?_,?_,?_,?_⟩,?_,?_,h.base⟩ o.dst _ _ ?_⟩ lH
  ·simp only[look]at ah
   by_cases hi:s.next≤id
   ·simp only[hi,if_true]at ah
    cases ag:aF fm (id-s.next)with
    |none=>simp[ag]at ah
    |some q=>
     simp[ag]at ah;subst ah;obtain⟨_,yE⟩:=qS B3 ag
     have gw:=ht.c7 _ q ag
     cases gw with
     |box t cs b arr aA aW cr eD=>
      refine .box t _ b arr (by simp[hi,aA]) aW (by rw[vQ];exact cr) fun j x ai=>?_
      obtain⟨y,az,rfl⟩:=vR s.next ai;exact bs.shift ((eD j y az).lower (qR (yE t cs rfl) az)) (fun _ h=>.inr h) HC
     |row t n es xs aA aW cr=>exact .row t n es xs (by simp only[hi,if_true];exact aA) aW fun j x ai=>(cr j x ai).keep (fun _ _=>rfl) fun _ h=>.inr h
     |fV t n es aA=>exact .fV t n es (by simp only[hi,if_true];exact aA.keep (fun _ _=>rfl) fun _ h=>.inr h)
     |b1 bF b o aA aW cr=>exact .b1 bF b o (by simp only[hi,if_true];exact aA) aW (by simp only[hi,if_true];exact bF.mono _ _ _ _ (fun x c h=>h.keep (fun _ _=>rfl) fun _ h=>.inr h) cr)
   ·simp only[hi,if_false]at ah
    have gw:=h.heap.c7 id p ah
    cases gw with
    |box t cs b arr aA aW cr eD=>
     have iv:=nN id _ b ah rfl (by rw[aA];rfl)
     exact .box t cs b arr (by simp only[hi,if_false];exact aA) ((lH b iv).trans aW) cr fun j x ai=>up _ _ (eD j x ai)
    |row t n es xs aA aW cr=>
     exact .row t n es xs (by simp only[hi,if_false];exact aA.keep (fun b ae=>lH b (aA.hl ae).1) ct.size) aW fun j x ai=>(cr j x ai).keep cc fun _ h=>.inl h
    |fV t n es aA=>exact .fV t n es (by simp only[hi,if_false];exact aA.keep cc fun _ h=>.inl h)
    |b1 bF b o aA aW cr=>exact .b1 bF b o (by simp only[hi,if_false];exact aA) ((lH b (Array.getElem?_eq_some_iff.1 aW).1).trans aW) (by simp only[hi,if_false];exact bF.mono _ _ _ _ (fun x c h=>h.keep cc fun _ h=>.inl h) cr)
  ·intro id gM p fL b ah dR ak gv bc ee
   rw[look]at ah dR
   by_cases hi:s.next≤id
   ·simp only[hi,if_true]at ah bc
    cases ag:aF fm (id-s.next)with
    |none=>simp[ag]at ah
    |some q=>
     have qJ:q.live=true:=by simp[ag]at ah;subst ah;cases q<;>first|rfl|exact ak
     have hY:=B5 _ q b ag qJ bc
     by_cases gE:s.next≤gM
     ·simp only[gE,if_true]at dR ee
      cases e8:aF fm (gM-s.next)with
      |none=>simp[e8]at dR
      |some gB=>
       have yt:gB.live=true:=by simp[e8]at dR;subst dR;cases gB<;>first|rfl|exact gv
       have:=ht.inj _ _ q gB b ag e8 qJ yt bc ee
       omega
     ·simp only[gE,if_false]at dR ee
      have:=nN gM fL b dR gv ee
      omega
   ·simp only[hi,if_false]at ah bc
    have HD:=nN id p b ah ak bc
    by_cases gE:s.next≤gM
    ·simp only[gE,if_true]at dR ee
     cases e8:aF fm (gM-s.next)with
     |none=>simp[e8]at dR
     |some gB=>
      have yt:gB.live=true:=by simp[e8]at dR;subst dR;cases gB<;>first|rfl|exact gv
      have hY:=B5 _ gB b e8 yt ee
      omega
    ·simp only[gE,if_false]at dR ee
     exact h.heap.inj id gM p fL b ah dR ak gv bc ee
  ·rintro b ae ⟨id,p,ah,ak,bc⟩
   rw[look]at ah
   by_cases hi:s.next≤id
   ·simp only[hi,if_true]at ah bc
    cases ag:aF fm (id-s.next)with
    |none=>simp[ag]at ah
    |some q=>
     have qJ:q.live=true:=by simp[ag]at ah;subst ah;cases q<;>first|rfl|exact ak
     have hY:=B5 _ q b ag qJ bc
     rcases ae with ae|ae
     ·have:=h.heap.lt b ae;omega
     ·exact ht.fz b ae ⟨_,q,ag,qJ,bc⟩
   ·simp only[hi,if_false]at ah bc
    have HD:=nN id p b ah ak bc
    rcases ae with ae|ae
    ·exact h.heap.fz b ae ⟨id,p,ah,ak,bc⟩
    ·rcases OP b ae with hc|hc
     ·exact h.heap.fz b hc ⟨id,p,ah,ak,bc⟩
     ·omega
  ·intro b ae
   rcases ae with ae|ae
   ·exact Nat.lt_of_lt_of_le (h.heap.lt b ae) ct.size
   ·exact ht.lt b ae
  ·exact h.hV.keep cc fun _ h=>.inl h
  ·have t:=h.trans
   refine⟨ct.os.trans t.os,ct.tape.trans t.tape,ct.output.trans t.output,Nat.le_trans t.size ct.size,fun b iv hr=>(lH b (Nat.lt_of_lt_of_le iv t.size)).trans (t.frame b iv hr),?_,fun b ae=>.inl (t.jR b ae),?_,?_,?_,?_⟩
   ·intro b ae
    rcases ae with ae|ae
    ·exact t.iR b ae
    ·rcases OP b ae with hc|hc
     ·exact t.iR b hc
     ·exact .inr (.inr (Nat.le_trans t.size hc))
   ·rintro b ⟨id,p,ah,ak,bc⟩
    rw[look]at ah
    by_cases hi:s.next≤id
    ·simp only[hi,if_true]at ah bc
     cases ag:aF fm (id-s.next)with
     |none=>simp[ag]at ah
     |some q=>
      have qJ:q.live=true:=by simp[ag]at ah;subst ah;cases q<;>first|rfl|exact ak
      exact .inr (Nat.le_trans t.size (B5 _ q b ag qJ bc))
    ·simp only[hi,if_false]at ah bc
     exact t.gN b ⟨id,p,ah,ak,bc⟩
   ·intro id hid p ah
    have aa:=h.base
    have hi: ¬s.next≤id:=by omega
    rw[look,if_neg hi]at ah;simp only[hi,if_false];exact t.dK id hid p ah
   ·intro id p ah
    simp only[look]at ah
    by_cases hi:s.next≤id
    ·simp only[hi,if_true]at ah
     cases ag:aF fm (id-s.next)with
     |none=>simp[ag]at ah
     |some q=>
      have:=(qS B3 ag).1
      show id<s.next+K;omega
    ·show id<s.next+K
     omega
   ·have:=h.base
    show E.n≤s.next+K;omega
  ·exact bs.shift qU (fun _ h=>.inr h) HC
theorem eh.call{o:Oper}{x:Operand}{xs:Array Operand}{ts:Array TypeId}(an:o.op= .call {callee:=.value x,args:=xs,argTypes:=ts}){f:FuncId}(hx:aJ G s x= .fn (.func f) [] [])
 (gl:nb P f=true){args:List aE}(h8:xs.toList.map (fun y=>mZ s.heap (aJ G s y))=args)(oE:eP args=true){R:aE→bA→Prop}(hc:dO P G f args [] 0 R){K:Nat}{r:aE}{bQ:bA}
 (gG: ∀ew fm,R ew fm→ew=r∧fm=bQ)(Hz:gk K r=true)(B3:k8 K bQ=true)(ae:s.base≤s.next):
 eh P G o s ({s with heap:=k9 s.next bQ++s.heap,next:=s.next+K}.put o.dst (pA s.next r)):=(l7.call an hx gl h8 oE hc gG Hz B3 ae).op
end
end Go.aM
namespace Go.aM
open Go
section
variable {P:Program} {G:a7} {o:Oper} {s:aN}
theorem dt.OQ{w:World}{ro:Nat→Prop}{n:Nat}{es:List (List bh)}{c:Value}(h:dt w ro (.aP n es) c): ∃b cap,c= .slice b es.length cap:=by
 cases h with
 |aP _ _ b cap=>exact⟨b,cap,rfl⟩
def lI(σ:bA):aE→Option Nat
 | .au (.aP _ es)=>some es.length
 | .au (.v (.slice none 0 0))=>some 0
 | .aP id=>match aF σ id with
  |some (.row _ _ _ es)=>some es.length
  |_=>none
 |_=>none
theorem Yg{w:World}{ro:Nat→Prop}{σ:bA}{β:Nat→Value}{N:Nat}(aX:ho w ro σ β N){x:aE}{c:Value}(h:bs w ro σ β N x c){m:Nat}(hm:lI σ x=some m): ∃b cap,c= .slice b m cap:=by
 cases h with
 |au x c hx=>
  cases hx with
  |v _ aa=>
   cases c with
   |slice a l iu=>
    cases a with
    |none=>
     cases l with
     |zero=>
      cases iu with
      |zero=>simp[lI]at hm;subst hm;exact⟨_,_,rfl⟩
      |succ=>simp[lI]at hm
     |succ=>simp[lI]at hm
    |some=>simp[lI]at hm
   |_=>simp[lI]at hm
  |ptr=>simp[lI]at hm
  |mp=>simp[lI]at hm
  |li=>simp[lI]at hm
  |aP n es b cap c aa ad aq aS bC=>
   simp only[lI,Option.some.injEq]at hm;subst hm;exact⟨b,cap,rfl⟩
 |aP id c ao ak=>
  simp only[lI]at hm
  split at hm
  ·rename_i z t n es ah
   simp only[Option.some.injEq]at hm;subst hm;rw[ak z t n es ah]
   have:=aX.c7 id _ ah
   cases this with
   |row _ _ _ xs aa=>
    rcases aa.2 with⟨⟨_,av,_⟩,bu⟩|⟨g,cap,cur,av,_⟩
    ·rw[av,bu];exact⟨_,_,rfl⟩
    ·rw[av];exact⟨_,_,rfl⟩
   |fV _ _ _ aa=>exact aa.OQ
  ·cases hm
 |_=>simp[lI]at hm
def isSlice(P:Program)(t:TypeId):Bool:=
 match P.underlying t with
 |some (.slice _)=>true
 |_=>false
theorem HE(x:Operand)(t:TypeId)(an:o.op= .call {callee:=.builtin .len,args:=#[x],argTypes:=#[t]})(aG:isSlice P t=true){m:Nat}(hm:lI s.heap (aJ G s x)=some m):
 cV P G o s (.au (.v (.int .i64 (m:Int)))):=
 fun _ a w β ro af=>by
  obtain⟨b,cap,hc⟩:=Yg af.heap (af.eval x) hm;unfold isSlice at aG
  split at aG
  ·rename_i e hu
   refine⟨.int .i64 m,?_,.fO rfl⟩
   simp[execOp,an,resolve,invoke,builtin,hc,Builtin.len_,run_underlying hu,goInt]
  ·cases aG
theorem HF(x:Operand)(t:TypeId)(an:o.op= .call {callee:=.builtin .len,args:=#[x],argTypes:=#[t]})(aG:P.underlying t=some .string){b:ByteArray}(hx:aJ G s x= .au (.v (.string b))):
 cV P G o s (.au (.v (.int .i64 (b.size:Int)))):=
 fun _ a w β ro af=>by
  refine⟨.int .i64 b.size,?_,.fO rfl⟩
  simp[execOp,an,resolve,invoke,builtin,af.ep hx,Builtin.len_,run_underlying aG,goInt]
def B6(P:Program)(t:TypeId):Option Nat:=
 match P.underlying t with
 |some (.array n _)=>some n
 |some (.pointer a)=>match P.underlying a with
  |some (.array n _)=>some n
  |_=>none
 |_=>none
theorem OR(x:Operand)(t:TypeId)(an:o.op= .call {callee:=.builtin .len,args:=#[x],argTypes:=#[t]}){n:Nat}(aG:B6 P t=some n):
 cV P G o s (.au (.v (.int .i64 (n:Int)))):=
 fun _ a w β ro af=>by
  refine⟨.int .i64 n,?_,.fO rfl⟩
  unfold B6 at aG
  split at aG
  ·rename_i m e hu
   simp only[Option.some.injEq]at aG;subst aG;simp[execOp,an,resolve,invoke,builtin,Builtin.len_,run_underlying hu,goInt]
  ·rename_i p hu
   split at aG
   ·rename_i m e Yh
    simp only[Option.some.injEq]at aG;subst aG;simp[execOp,an,resolve,invoke,builtin,Builtin.len_,run_underlying hu,run_underlying Yh,goInt]
   ·cases aG
  ·cases aG
def jV(P:Program)(t:TypeId):Option Nat:=
 match P.underlying t with
 |some (.slice e)=>(P.info? e).map (·.size)
 |_=>none
theorem yF{t n:Nat}(h:jV P t=some n): ∃e,P.underlying t=some (.slice e)∧∀w,(sizeOf e).run P w= .ok n w:=by
 unfold jV at h
 split at h
 ·rename_i e hu
  cases hi:P.info? e with
  |none=>simp[hi]at h
  |some i=>
   simp[hi]at h;subst h;exact⟨e,hu,fun w=>by simp[sizeOf,typeInfo,hi]⟩
 ·cases h
def nc(σ:bA)(n j:Nat):aE→Option aE
 | .au (.aP m es)=>if m=n then match es[j]? with
  |some e=>some (.au (.ptr e))
  |none=>none
  else none
 | .aP id=>match aF σ id with
  |some (.row false _ m es)=>if m=n∧j<es.length then some (.cH id j 0)else none
  |some (.row true _ m es)=>if m=n then match es[j]? with
   |some e=>some (.au (.ptr e))
   |none=>none
   else none
  |_=>none
 |_=>none
theorem dt.elem{w:World}{ro:Nat→Prop}{n:Nat}{es:List (List bh)}{c:Value}(h:dt w ro (.aP n es) c){j:Nat}{e:List bh}(ai:es[j]? =some e):
 ∃a cap,c= .slice (some a) es.length cap∧dt w ro (.ptr e) (.pointer (some (a.add (j*n)))):=by
 cases h with
 |aP _ _ b cap f aa ad aq aS bC=>
  have dT:j<es.length:=(List.getElem?_eq_some_iff.1 ai).1
  obtain⟨a,rfl,hc⟩:=aS (by omega)
  have nM:e.length=n:=aq e (List.mem_of_getElem? ai)
  have Hp:j*n+n≤es.length*n:=by rw[←Nat.succ_mul];exact Nat.mul_le_mul_right n dT
  refine⟨a,cap,rfl,.ptr _ _ (fun k=>f (j*n+k)) (fun k x aj=>?_) (fun k x aj=>?_)⟩
  ·have oF:k<n:=by have:=(List.getElem?_eq_some_iff.1 aj).1;omega
   rw[tZ,yn];exact hc _ (by omega)
  ·have oF:k<n:=by have:=(List.getElem?_eq_some_iff.1 aj).1;omega
   exact bC _ _ (by rw[qH aq ai k oF];exact aj)
theorem OS{w:World}{ro:Nat→Prop}{σ:bA}{β:Nat→Value}{N:Nat}(aX:ho w ro σ β N){x:aE}{c:Value}(h:bs w ro σ β N x c){n j:Nat}{p:aE}(ak:nc σ n j x=some p):
 ∃a len cap,c= .slice (some a) len cap∧j<len∧bs w ro σ β N p (.pointer (some (a.add (j*n)))):=by
 cases h with
 |au x c hx=>
  cases x with
  |v=>simp[nc]at ak
  |ptr=>simp[nc]at ak
  |mp=>simp[nc]at ak
  |li=>simp[nc]at ak
  |aP m es=>
   simp only[nc]at ak
   split at ak
   ·rename_i hm
    subst hm
    split at ak
    ·rename_i e he
     simp only[Option.some.injEq]at ak;subst ak;obtain⟨a,cap,hc,af⟩:=hx.elem he;exact⟨a,es.length,cap,hc,(List.getElem?_eq_some_iff.1 he).1,.au _ _ af⟩
    ·cases ak
   ·cases ak
 |aP id c ao aL=>
  simp only[nc]at ak
  split at ak
  ·rename_i t m es ah
   split at ak
   ·rename_i hm
    obtain⟨rfl,ai⟩:=hm;simp only[Option.some.injEq]at ak;subst ak
    have du:=aX.c7 id _ ah
    cases du with
    |row _ _ _ xs aa=>
     rcases aa.2 with⟨_,bu⟩|⟨g,cap,cur,av,_⟩
     ·omega
     ·rw[aL _ _ _ _ ah,av]
      refine⟨_,_,_,rfl,ai,.cH _ _ _ _ ao fun h6 bw cR ez dR=>?_⟩
      rw[ah]at dR;simp only[Option.some.injEq,en.row.injEq]at dR;obtain⟨_,_,rfl,_⟩:=dR;exact⟨g,_,_,av,by rw[addLit];simp⟩
   ·cases ak
  ·rename_i t m es ah
   split at ak
   ·rename_i hm
    subst hm
    split at ak
    ·rename_i e he
     simp only[Option.some.injEq]at ak;subst ak
     have du:=aX.c7 id _ ah
     cases du with
     |fV _ _ _ aa=>
      obtain⟨a,cap,hc,af⟩:=aa.elem he;exact⟨a,es.length,cap,by rw[aL _ _ _ _ ah,hc],(List.getElem?_eq_some_iff.1 he).1,.au _ _ af⟩
    ·cases ak
   ·cases ak
  ·cases ak
 |_=>simp[nc]at ak
theorem OT(t:TypeId)(x i:Operand)(an:o.op= .indexAddr t x i){n:Nat}(aG:jV P t=some n){k:IntKind}{j:Nat}(hi:aJ G s i= .au (.v (.int k (j:Int)))){p:aE}(ak:nc s.heap n j (aJ G s x)=some p):
 cV P G o s p:=
 fun _ a w β ro af=>by
  obtain⟨cS,len,cap,hc,ai,dp⟩:=OS af.heap (af.eval x) ak;obtain⟨e,hu,bK⟩:=yF aG;refine⟨_,?_,dp⟩
  have ug:(0:Int)≤j∧(j:Int)<len:=⟨by omega,by omega⟩
  simp[execOp,an,hc,af.ep hi,Instr.indexAt,asIntOf,run_underlying hu,ai,bK]
def uh(P:Program)(t:TypeId):Option (Nat × Nat):=
 match P.underlying t with
 |some (.array n e)=>(P.info? e).map fun i=>(n,i.size)
 |_=>none
theorem HG(t:TypeId)(x i:Operand)(an:o.op= .indexAddr t x i){len n:Nat}(aG:uh P t=some (len,n)){k:IntKind}{j:Nat}(hi:aJ G s i= .au (.v (.int k (j:Int))))(ai:j<len)
 {cs:List aE}(fA:fj s.heap (aJ G s x)=some cs){p:aE}(ak:iT (j*n) (aJ G s x)=some p):
 cV P G o s p:=
 fun _ a w β ro af=>by
  obtain⟨cS,hc,dp⟩:=Oa ak fA (af.eval x);unfold uh at aG
  split at aG
  ·rename_i m e hu
   cases ui:P.info? e with
   |none=>simp[ui]at aG
   |some Yi=>
    simp[ui]at aG;obtain⟨rfl,rfl⟩:=aG;refine⟨_,?_,dp⟩
    simp[execOp,an,hc,af.ep hi,Instr.indexAt,asIntOf,run_underlying hu,Instr.sureAddr,ai,sizeOf,typeInfo,ui]
  ·cases aG
theorem OU(t:TypeId)(x i:Operand)(an:o.op= .index t x i)(aG:P.underlying t=some .string){k:IntKind}{j:Nat}(hi:aJ G s i= .au (.v (.int k (j:Int)))){b:ByteArray}(hx:aJ G s x= .au (.v (.string b)))
 {u:UInt8}(hu:b.data.toList[j]? =some u):cV P G o s (.au (.v (.int .u8 (u.toNat:Int)))):=
 fun _ a w β ro af=>by
  have ai:b[j]? =some u:=by
   have aa:j<b.size:=by have:=(List.getElem?_eq_some_iff.1 hu).1;simpa using this
   rw[ByteArray.getElem?_lt' b j aa]
   rw[List.getElem?_eq_some_iff]at hu
   obtain⟨_,ad⟩:=hu;simp only[Option.some.injEq];rw[←ad];rfl
  exact⟨_,by simp[execOp,an,af.ep hx,af.ep hi,Instr.index,asIntOf,run_underlying aG,ai],.fO rfl⟩
def vS(P:Program)(t:TypeId)(f:Nat):Option (Nat × Option Nat):=
 match P.underlying t with
 |some (.struct fs)=>match fs[f]? with
  |some fd=>if scalar P fd.type then some (fd.offset,none)else match l8 P fd.type with
   |some n=>some (fd.offset,some n)
   |none=>none
  |none=>none
 |_=>none
theorem OV(t:TypeId)(x:Operand)(f:Nat)(an:o.op= .field t x f){off:Nat}(aG:vS P t f=some (off,none)){cs:List aE}(hx:aJ G s x= .agg cs){v:aE}(av:cs[off]? =some v):
 cV P G o s v:=
 fun _ a w β ro af=>by
  have h:=af.eval x
  rw[hx]at h;generalize he:a.eval x=c at h
  cases h with
  |agg _ c ag hc=>
   have bB:off<c.size:=by have:=(List.getElem?_eq_some_iff.1 av).1;omega
   unfold vS at aG
   split at aG
   ·rename_i fs hu
    split at aG
    ·rename_i fd hf
     split at aG
     ·rename_i hsc
      simp only[Option.some.injEq,Prod.mk.injEq,and_true]at aG;subst aG;refine⟨c[fd.offset],?_,by simpa[bB]using hc _ v av⟩
      simp[execOp,an,he,Instr.field,run_underlying hu,hf,asAgg,part,yo hsc,bB]
     ·split at aG
      ·simp at aG
      ·cases aG
    ·cases aG
   ·cases aG
theorem OW(t:TypeId)(x:Operand)(f:Nat)(an:o.op= .field t x f){off n:Nat}(aG:vS P t f=some (off,some n)){cs:List aE}(hx:aJ G s x= .agg cs)(hn:off+n≤cs.length):
 cV P G o s (.agg ((cs.drop off).take n)):=
 fun _ a w β ro af=>by
  have h:=af.eval x
  rw[hx]at h;generalize he:a.eval x=c at h
  cases h with
  |agg _ c ag hc=>
   unfold vS at aG
   split at aG
   ·rename_i fs hu
    split at aG
    ·rename_i fd hf
     split at aG
     ·simp at aG
     ·split at aG
      ·rename_i m bG
       simp only[Option.some.injEq,Prod.mk.injEq]at aG;obtain⟨rfl,rfl⟩:=aG;obtain⟨g1,g2⟩:=BT bG w;refine⟨.agg (c.extract fd.offset (fd.offset+m)),?_,.agg _ _ (by simp;omega) fun j y ai=>?_⟩
       ·simp[execOp,an,he,Instr.field,run_underlying hu,hf,asAgg,part,g1,g2]
       ·rw[List.getElem?_take]at ai
        split at ai
        ·rename_i OX
         rw[List.getElem?_drop]at ai
         have:=hc _ y ai
         have aa:fd.offset+j<c.size:=by omega
         have ad:j<(c.extract fd.offset (fd.offset+m)).size:=by simp;omega
         simp only[Array.getD,ad,dif_pos];simpa[aa]using this
        ·cases ai
      ·cases aG
    ·cases aG
   ·cases aG
def places(P:Program)(t:TypeId):Option (Nat→Option (Nat × Nat)):=
 match P.underlying t with
 |some (.struct fs)=>if fs.toList.all fun f=>(P.info? f.type).isSome then some fun i=>(fs.toList.map fun f=>(f.offset,((P.info? f.type).map (·.size)).getD 0))[i]? else none
 |some (.array _ e)=>match P.info? e with
  |some inf=>some fun i=>some (i*inf.size,inf.size)
  |none=>none
 |_=>none
def jW(place:Nat→Option (Nat × Nat)):List aE→List (Nat × aE)→Option (List aE)
 |cs,[]=>some cs
 |cs,(i,v)::rest=>match place i with
  |some (off,size)=>if(cA v).length=size∧off+size≤cs.length then jW place (ea cs off (cA v)) rest else none
  |none=>none
theorem OY(off:Nat): ∀(vs:List Value) (k:Nat) (cs:Array Value),off+k+vs.length≤cs.size→
 ((vs.zipIdx k).foldl (fun(cs:Array Value) (x:Value × Nat)=>cs.setIfInBounds (off+x.2) x.1) cs).toList=ea cs.toList (off+k) vs
 |[],k,cs,h=>by simp[ea]
 |v::vs,k,cs,h=>by
  simp only[List.zipIdx_cons,List.foldl_cons];rw[OY off vs (k+1) (cs.setIfInBounds (off+k) v) (by simp at h⊢;omega)]
  have e:=list_seg_step cs.toList (off+k) v vs (by simp at h⊢;omega)
  simp only[ea,Array.toList_setIfInBounds,←Nat.add_assoc]at*;simp only[List.append_assoc]at e;rw[e];simp[Nat.add_assoc]
theorem B7{place place':Nat→Option (Nat × Nat)}(pr: ∀i p,place i=some p→place' i=some p){w:World}{ro:Nat→Prop}{σ:bA}{β:Nat→Value}{N:Nat}(aX:ho w ro σ β N):
    ∀{ps:List (Nat × aE)} {qs:List (Nat × Value)} {cs ds:List aE} {xs:Array Value},jW place cs ps=some ds→ps.map (·.1)=qs.map (·.1)→(∀(j:Nat) (p:Nat × aE) (q:Nat × Value),ps[j]? =some p→qs[j]? =some q→bs w ro σ β N p.2 q.2∧(cA p.2).all (eo σ)=true)→
    xs.size=cs.length→(∀j x,cs[j]? =some x→bs w ro σ β N x (xs.getD j undef))→
    ∃ys,Instr.fill place' xs qs=some ys∧ys.size=ds.length∧∀j x,ds[j]? =some x→bs w ro σ β N x (ys.getD j undef)
  |[],qs,cs,ds,xs,hf,aj,_,ag,hx=>by
    simp[jW]at hf;subst hf
    have:qs=[]:=by cases qs with
      |nil=>rfl
      |cons=>simp at aj
    subst this;exact⟨xs,by simp[Instr.fill],ag,hx⟩
  |(i,v)::ps,[],cs,ds,xs,hf,aj,_,ag,hx=>by simp at aj
  |(i,v)::ps,(yG,u)::qs,cs,ds,xs,hf,aj,af,ag,hx=>by
    simp only[List.map_cons,List.cons.injEq]at aj;obtain⟨rfl,aj⟩:=aj;simp only[jW]at hf
    split at hf
    · rename_i off size ak
      split at hf
      · rename_i hc
        obtain⟨B8,HH⟩:=hc
        have dp:bs w ro σ β N v u:=(af 0 (i,v) (i,u) rfl rfl).1
        have dU:(cA v).all (eo σ)=true:=(af 0 (i,v) (i,u) rfl rfl).2
        obtain⟨g1,g2,_⟩:=dp.cA dU aX
        have OZ:=OY off u.cells.toList 0 xs (by simp;omega)
        simp only[Nat.add_zero]at OZ
        have aR:=B7 pr aX (ps:=ps) (qs:=qs) (cs:=ea cs off (cA v)) (ds:=ds) (xs:=(ea xs.toList off u.cells.toList).toArray) hf aj (fun j p q aa ad=>af (j+1) p q aa ad)
          (by rw[List.size_toArray,px _ _ _ (by simp;omega),px _ _ _ (by omega)];simpa using ag) (fun j x ai=>by
            have:=Hn (bs w ro σ β N) undef (cs:=cs) (vs:=cA v) (xs:=xs.toList) (ys:=u.cells.toList) (off:=off) (by simp;omega) (by simp;omega) (by omega)
              (fun j x ai=>by have:=hx j x ai;simpa[Array.getD_eq_getD_getElem?,List.getD]using this) (fun j x ai=>by have:=g2 j x ai;simpa[Array.getD_eq_getD_getElem?,List.getD]using this) j x ai
            simpa[Array.getD_eq_getD_getElem?,List.getD]using this)
        obtain⟨ys,aa,ad,aq⟩:=aR;refine⟨ys,?_,ad,aq⟩
        rw[Instr.fill.eq_2,pr _ _ ak];simp only;rw[if_neg (by simp;omega)]
        have Yj:Array.foldl (fun cs x=>match x with
            |(c,j)=>cs.setIfInBounds (off+j) c) xs u.cells.zipIdx=(ea xs.toList off u.cells.toList).toArray:=by
          apply Array.ext';rw[←OZ,←Array.foldl_toList];simp
        rw[Yj];exact aa
      · cases hf
    · cases hf
theorem run_places(w:World): ∀l:List Field,(l.all fun f=>(P.info? f.type).isSome)=true→(l.mapM (fun f=>do
    let n ←sizeOf f.type
    pure (f.offset,n):Field→Sem (Nat × Nat))).run P w= .ok (l.map fun f=>(f.offset,((P.info? f.type).map (·.size)).getD 0)) w
  |[],_=>by simp
  |f::r,h=>by
    simp only[List.all_cons,Bool.and_eq_true]at h
    have aR:=run_places w r h.2
    cases hi:P.info? f.type with
    |none=>simp[hi]at h
    |some inf=>
      have aa:(sizeOf f.type).run P w= .ok inf.size w:=by simp[sizeOf,typeInfo,hi]
      simp only[List.mapM_cons,Sem.run_bind,aa,Result.andThen_ok,Sem.run_pure,aR];simp[hi]
theorem run_build{t:TypeId}{pl:Nat→Option (Nat × Nat)}(ak:places P t=some pl){zs:List Value}(bu:zeroCells P t=some zs){parts:Array (Nat × Value)}{ys:Array Value}(hf:Instr.fill pl zs.toArray parts.toList=some ys)(w:World):
    (Instr.build t parts).run P w= .ok (.agg ys) w:=by
  obtain⟨z,mc,oz,_⟩:=yv bu w;unfold places at ak
  split at ak
  · rename_i fs hu
    split at ak
    · rename_i dU
      simp only[Option.some.injEq]at ak;subst ak
      have aa:=run_places w fs.toList dU
      have ad:(fs.mapM (fun f=>do
          let n ←sizeOf f.type
          pure (f.offset,n):Field→Sem (Nat × Nat))).run P w= .ok (fs.toList.map fun f=>(f.offset,((P.info? f.type).map (·.size)).getD 0)).toArray w:=by
        rw[Array.mapM_eq_mapM_toList];simp only[Sem.run_map,aa];rfl
      simp only[Instr.build,Sem.run_bind,mc,Result.andThen_ok,run_underlying hu,ad,oz]
      have aq:(fun(x:Nat)=>(fs.toList.map fun f=>(f.offset,((P.info? f.type).map (·.size)).getD 0)).toArray[x]?)=(fun(i:Nat)=>(fs.toList.map fun f=>(f.offset,((P.info? f.type).map (·.size)).getD 0))[i]?):=by
        funext i;simp
      rw[aq,hf];rfl
    · cases ak
  · rename_i n e hu
    split at ak
    · rename_i inf hi
      simp only[Option.some.injEq]at ak;subst ak
      have aa:(sizeOf e).run P w= .ok inf.size w:=by simp[sizeOf,typeInfo,hi]
      simp only[Instr.build,Sem.run_bind,mc,Result.andThen_ok,run_underlying hu,aa,oz,hf];rfl
    · cases ak
  · cases ak
theorem HI{w:World}{ro:Nat→Prop}{σ:bA}{β:Nat→Value}{N:Nat}{zs:List Value}(dU:zs.all Value.oneCell'=true): ∀(j:Nat) (x:aE),(zs.map fun z=>aE.au (.v z))[j]? =some x→bs w ro σ β N x (zs.toArray.getD j undef):=by
 intro j x ai
 rw[List.getElem?_map]at ai
 cases qL:zs[j]? with
 |none=>simp[qL]at ai
 |some y=>
  simp[qL]at ai;subst ai
  have:y.oneCell'=true:=by
   rw[List.all_eq_true]at dU;exact dU y (List.mem_of_getElem? qL)
  simpa[qL]using bs.au (w:=w) (ro:=ro) (σ:=σ) (β:=β) (N:=N) _ _ (.v y this)
theorem HJ{E:Entry}{a:Act}{w:World}{β:Nat→Value}{ro:Nat→Prop}(af:c9 E G s a w β ro){parts:Array (Nat × Operand)}{ps:List (Nat × aE)}(qV:parts.toList.map (fun p=>(p.1,aJ G s p.2))=ps)
 (dU:ps.all (fun p=>(cA p.2).all (eo s.heap))=true):
 ps.map (·.1)=(parts.map fun p=>(p.1,a.eval p.2)).toList.map (·.1)∧
 ∀(j:Nat) (p:Nat × aE) (q:Nat × Value),ps[j]? =some p→(parts.map fun p=>(p.1,a.eval p.2)).toList[j]? =some q→bs w ro s.heap β s.next p.2 q.2∧(cA p.2).all (eo s.heap)=true:=by
 subst qV
 refine⟨by simp,fun j p q aa ad=>?_⟩
 have ak:(cA p.2).all (eo s.heap)=true:=by
  rw[List.all_eq_true]at dU;exact dU p (List.mem_of_getElem? aa)
 rw[List.getElem?_map]at aa
 rw[Array.toList_map,List.getElem?_map]at ad
 cases ai:parts.toList[j]? with
 |none=>simp[ai]at aa
 |some y=>
  simp[ai]at aa ad;subst aa ad;exact⟨af.eval _,ak⟩
theorem O0(t:TypeId)(parts:Array (Nat × Operand))(an:o.op= .build t parts){pl:Nat→Option (Nat × Nat)}(ak:places P t=some pl){zs:List Value}(bu:zeroCells P t=some zs)(r7:zs.all Value.oneCell'=true)
 {ps:List (Nat × aE)}(qV:parts.toList.map (fun p=>(p.1,aJ G s p.2))=ps)(dU:ps.all (fun p=>(cA p.2).all (eo s.heap))=true){ds:List aE}(hf:jW pl (zs.map fun z=>.au (.v z)) ps=some ds):
 cV P G o s (.agg ds):=
 fun _ a w β ro af=>by
  obtain⟨aa,ad⟩:=HJ af qV dU;obtain⟨ys,g1,g2,g3⟩:=B7 (place':=pl) (fun _ _ h=>h) af.heap hf aa ad (xs:=zs.toArray) (by simp) (HI r7)
  refine⟨.agg ys,?_,.agg _ _ g2 g3⟩
  have ae:=run_build (P:=P) ak bu g1 w
  simp only[execOp,an,Sem.run_bind]
  erw [ae]
  rfl
end
end Go.aM
namespace Go.aM
open Go
mutual
def et(id:Nat):aE→aE
 | .au x=>.au x
 | .agg cs=>.agg (ej id cs)
 | .tuple cs=>.tuple (ej id cs)
 | .ptr k off=>if k=id then .top else .ptr k off
 | .dF k off=>if k=id then .top else .dF k off
 | .cH k i off=>if k=id then .top else .cH k i off
 | .aP k=>if k=id then .top else .aP k
 | .fn f p q=>.fn f (ej id p) (ej id q)
 | .ref k=>if k=id then .top else .ref k
 | .top=>.top
def ej(id:Nat):List aE→List aE
 |[]=>[]
 |x::r=>et id x::ej id r
end
def dv(id:Nat):bA→bA
 |[]=>[]
 |(k,.box t cs)::r=>if k=id then dv id r else(k,.box t (ej id cs))::dv id r
 |(k,.row z t n es)::r=>if k=id then dv id r else(k,.row z t n es)::dv id r
 |(k,.b1 bF)::r=>if k=id then dv id r else(k,.b1 bF)::dv id r
def ef(id:Nat):en→en
 | .box t cs=>.box t (ej id cs)
 | .row z t n es=>.row z t n es
 | .b1 bF=>.b1 bF
theorem hH(d:Nat): ∀(l:List aE),(ej d l).length=l.length
 |[]=>rfl
 |x::r=>by simp[ej,hH d r]
theorem hv(d:Nat): ∀{l:List aE} {j:Nat} {x:aE},(ej d l)[j]? =some x→∃y,l[j]? =some y∧x=et d y
 |[],j,x,h=>by simp[ej]at h
 |y::r,j,x,h=>by
  cases j with
  |zero=>simp[ej]at h;exact⟨y,by simp,h.symm⟩
  |succ j=>simp[ej]at h;simpa using hv d h
theorem qW(id:Nat): ∀(σ:bA) (k:Nat),aF (dv id σ) k=if k=id then none else(aF σ k).map (ef id)
 |[],k=>by simp[dv,aF]
 |(j,.box t cs)::r,k=>by
  have aR:=qW id r k
  by_cases ai:j=id
  ·subst ai
   by_cases aj:k=j
   ·subst aj;simpa[dv]using aR
   ·simp[dv,aF,aR,aj,Ne.symm aj]
  ·by_cases aj:j=k
   ·subst aj;simp[dv,aF,ai,ef]
   ·simp[dv,aF,ai,aj,aR]
 |(j,.row z t n es)::r,k=>by
  have aR:=qW id r k
  by_cases ai:j=id
  ·subst ai
   by_cases aj:k=j
   ·subst aj;simpa[dv]using aR
   ·simp[dv,aF,aR,aj,Ne.symm aj]
  ·by_cases aj:j=k
   ·subst aj;simp[dv,aF,ai,ef]
   ·simp[dv,aF,ai,aj,aR]
 |(j,.b1 bF)::r,k=>by
  have aR:=qW id r k
  by_cases ai:j=id
  ·subst ai
   by_cases aj:k=j
   ·subst aj;simpa[dv]using aR
   ·simp[dv,aF,aR,aj,Ne.symm aj]
  ·by_cases aj:j=k
   ·subst aj;simp[dv,aF,ai,ef]
   ·simp[dv,aF,ai,aj,aR]
theorem iU(id:Nat)(o:en):(ef id o).live=o.live:=by cases o<;>rfl
section
variable {P:Program} {G:a7} {s:aN} {E:Entry} {a:Act} {w w':World} {β:Nat→Value} {ro:Nat→Prop}
theorem c9.renew(h:c9 E G s a w β ro)(id:Nat)(ae:s.base≤id)(bB:id<s.next){t0:TypeId}{n0:Nat}{yH:List (List bh)}(hid:aF s.heap id=some (.row false t0 n0 yH))(o:en)(val:Value)
 (ox:w'.os=w.os)(oy:w'.tape=w.tape)(kB:w'.output=w.output)(bK:w.heap.size≤w'.heap.size)(hw: ∀b,b<w.heap.size→cf (β id)≠some b→w'.heap[b]? =w.heap[b]?)
 (gQ: ∀b,cf val=some b→cf (β id)=some b∨w.heap.size≤b)(_hlive:o.live=true)
 (du:lB w' ro ((id,o)::dv id s.heap) (hq β id val) s.next id o):
 c9 E G ⟨ej id s.cE,(id,o)::dv id s.heap,s.next,s.base⟩ a w' (hq β id val) ro:=by
 have cc: ∀b,ro b→w'.heap[b]? =w.heap[b]? :=fun b af=>hw b (h.heap.lt b af) fun ae=>h.heap.fz b af ⟨id,_,hid,rfl,ae⟩
 have ah: ∀k,k≠id→aF ((id,o)::dv id s.heap) k=(aF s.heap k).map (ef id):=fun k aj=>by simp[aF,Ne.symm aj,qW,aj]
 have ub:aF ((id,o)::dv id s.heap) id=some o:=by simp[aF]
 have key: ∀x c,bs w ro s.heap β s.next x c→bs w' ro ((id,o)::dv id s.heap) (hq β id val) s.next (et id x) c:=by
  intro x c hx
  induction hx with
  |au x c hx=>exact .au x c (hx.keep cc fun _ h=>h)
  |agg cs c ag _ aR=>
   refine .agg _ c (by rw[hH];exact ag) fun j x ai=>?_
   obtain⟨y,az,rfl⟩:=hv id ai;exact aR j y az
  |tuple cs c ag _ aR=>
   refine .tuple _ c (by rw[hH];exact ag) fun j x ai=>?_
   obtain⟨y,az,rfl⟩:=hv id ai;exact aR j y az
  |ptr k off c ao ak=>
   simp only[et]
   split
   ·exact .top _
   ·rename_i aj
    refine .ptr k off c ao fun t cs bg=>?_
    rw[cL _ _ aj];rw[ah k aj]at bg
    cases ag:aF s.heap k with
    |none=>simp[ag]at bg
    |some p=>
     cases p with
     |box bw cs'=>exact ak bw cs' ag
     |row=>simp[ag,ef]at bg
     |b1=>simp[ag,ef]at bg
  |dF k off c ao ak=>
   simp only[et]
   split
   ·exact .top _
   ·rename_i aj
    refine .dF k off c ao fun t cs bg=>?_
    rw[cL _ _ aj];rw[ah k aj]at bg
    cases ag:aF s.heap k with
    |none=>simp[ag]at bg
    |some p=>
     cases p with
     |box bw cs'=>exact ak bw cs' ag
     |row=>simp[ag,ef]at bg
     |b1=>simp[ag,ef]at bg
  |cH k i off c ao ak=>
   simp only[et]
   split
   ·exact .top _
   ·rename_i aj
    refine .cH k i off c ao fun z t n es bg=>?_
    rw[cL _ _ aj];rw[ah k aj]at bg
    cases ag:aF s.heap k with
    |none=>simp[ag]at bg
    |some p=>
     cases p with
     |box bw cs'=>simp[ag,ef]at bg
     |b1=>simp[ag,ef]at bg
     |row h6 bw cR ez=>
      simp only[ag,Option.map_some,ef,Option.some.injEq,en.row.injEq]at bg;obtain⟨rfl,rfl,rfl,rfl⟩:=bg;exact ak _ _ _ _ ag
  |aP k c ao ak=>
   simp only[et]
   split
   ·exact .top _
   ·rename_i aj
    refine .aP k c ao fun z t n es bg=>?_
    rw[cL _ _ aj];rw[ah k aj]at bg
    cases ag:aF s.heap k with
    |none=>simp[ag]at bg
    |some p=>
     cases p with
     |box bw cs'=>simp[ag,ef]at bg
     |b1=>simp[ag,ef]at bg
     |row h6 bw cR ez=>exact ak _ _ _ _ ag
  |fn f p q c d aa ad _ _ gO gP=>
   refine .fn f _ _ c d (by rw[hH];exact aa) (by rw[hH];exact ad) (fun j x ai=>?_) (fun j x ai=>?_)
   ·obtain⟨y,az,rfl⟩:=hv id ai
    exact gO j y az
   ·obtain⟨y,az,rfl⟩:=hv id ai
    exact gP j y az
  |ref k c ao ak=>
   simp only[et]
   split
   ·exact .top _
   ·rename_i aj
    refine .ref k c ao fun bF bg=>?_
    rw[cL _ _ aj];rw[ah k aj]at bg
    cases ag:aF s.heap k with
    |none=>simp[ag]at bg
    |some p=>
     cases p with
     |box=>simp[ag,ef]at bg
     |row=>simp[ag,ef]at bg
     |b1 lC=>exact ak lC ag
  |top c=>exact .top c
 have dK: ∀k p,k≠id→aF ((id,o)::dv id s.heap) k=some p→∃q,aF s.heap k=some q∧p=ef id q:=by
  intro k p aj bg;rw[ah k aj]at bg
  cases ag:aF s.heap k with
  |none=>simp[ag]at bg
  |some q=>simp[ag]at bg;exact⟨q,rfl,bg.symm⟩
 refine⟨h.defers,by simpa[hH]using h.size,fun i x hx=>?_,⟨fun k p aj=>?_,fun k br p fL b aj eB ak gv bc ee=>?_,fun b af=>?_,fun b af=>Nat.lt_of_lt_of_le (h.heap.lt b af) bK⟩,
  h.hV.keep cc fun _ h=>h,?_,h.base⟩
 ·obtain⟨y,az,rfl⟩:=hv id hx
  exact key _ _ (h.slot i y az)
 ·by_cases bo:k=id
  ·subst bo
   rw[ub]at aj;simp only[Option.some.injEq]at aj;subst aj;exact du
  ·obtain⟨q,aL,rfl⟩:=dK k p bo aj
   have gw:=h.heap.c7 k q aL
   have cb:q.live=true→∀b,cf (β k)=some b→w'.heap[b]? =w.heap[b]? :=fun ao b bc=>
    hw b (gw.hl ao bc) fun ju=>bo (h.heap.inj k id q _ b aL hid ao rfl bc ju)
   cases gw with
   |box t cs b arr aa ad aq aS=>
    refine .box t _ b arr (by rw[cL _ _ bo];exact aa) ((cb rfl b (by rw[aa];rfl)).trans ad) (by rw[hH];exact aq) fun j x ai=>?_
    obtain⟨y,az,rfl⟩:=hv id ai;exact key _ _ (aS j y az)
   |row t n es xs aa ad aq=>exact .row t n es xs (by rw[cL _ _ bo];exact aa.keep (fun b ae=>cb rfl b ae) bK) ad fun j x ai=>(aq j x ai).keep cc fun _ h=>h
   |fV t n es aa=>exact .fV t n es (by rw[cL _ _ bo];exact aa.keep cc fun _ h=>h)
   |b1 bF b o aa ad aq=>exact .b1 bF b o (by rw[cL _ _ bo];exact aa) ((cb rfl b aa).trans ad) (by rw[cL _ _ bo];exact bF.mono _ _ _ _ (fun x c h=>h.keep cc fun _ h=>h) aq)
 ·by_cases bo:k=id
  ·by_cases gx:br=id
   ·rw[bo,gx]
   ·subst bo
    rw[eA]at bc;rw[cL _ _ gx]at ee;obtain⟨q,aL,rfl⟩:=dK br fL gx eB;rw[iU]at gv
    have ad:=(h.heap.c7 br q aL).hl gv ee
    rcases gQ b bc with aa|aa
    ·exact(h.heap.inj br k q _ b aL hid gv rfl ee aa).symm
    ·omega
  ·obtain⟨q,aL,rfl⟩:=dK k p bo aj
   rw[iU]at ak;rw[cL _ _ bo]at bc
   by_cases gx:br=id
   ·subst gx
    rw[eA]at ee
    have ad:=(h.heap.c7 k q aL).hl ak bc
    rcases gQ b ee with aa|aa
    ·exact h.heap.inj k br q _ b aL hid ak rfl bc aa
    ·omega
   ·obtain⟨gB,uc,rfl⟩:=dK br fL gx eB
    rw[iU]at gv;rw[cL _ _ gx]at ee;exact h.heap.inj k br q gB b aL uc ak gv bc ee
 ·rintro⟨k,p,aj,ak,bc⟩
  by_cases bo:k=id
  ·subst bo
   rw[eA]at bc
   rcases gQ b bc with aa|aa
   ·exact h.heap.fz b af ⟨k,_,hid,rfl,aa⟩
   ·have:=h.heap.lt b af;omega
  ·obtain⟨q,aL,rfl⟩:=dK k p bo aj
   rw[iU]at ak;rw[cL _ _ bo]at bc;exact h.heap.fz b af ⟨k,q,aL,ak,bc⟩
 ·have t:=h.trans
  refine⟨ox.trans t.os,oy.trans t.tape,kB.trans t.output,Nat.le_trans t.size bK,fun b iv hr=>?_,t.iR,t.jR,?_,fun k aj p bg=>?_,fun k p bg=>?_,t.le⟩
  ·by_cases ju:cf (β id)=some b
   ·rcases t.gN b ⟨id,_,hid,rfl,ju⟩with hc|hc
    ·exact absurd hc hr
    ·omega
   ·rw[hw b (Nat.lt_of_lt_of_le iv t.size) ju]
    exact t.frame b iv hr
  ·rintro b ⟨k,p,aj,ak,bc⟩
   by_cases bo:k=id
   ·subst bo
    rw[eA]at bc
    rcases gQ b bc with aa|aa
    ·exact t.gN b ⟨k,_,hid,rfl,aa⟩
    ·exact .inr (Nat.le_trans t.size aa)
   ·obtain⟨q,aL,rfl⟩:=dK k p bo aj
    rw[iU]at ak;rw[cL _ _ bo]at bc;exact t.gN b ⟨k,q,aL,ak,bc⟩
  ·have bo:k≠id:=by have:=h.base;omega
   obtain⟨q,aL,rfl⟩:=dK k p bo bg;rw[cL _ _ bo];exact t.dK k aj q aL
  ·by_cases bo:k=id
   ·subst bo;exact bB
   ·obtain⟨q,aL,rfl⟩:=dK k p bo bg
    exact t.new k q aL
def chunk{α:Type}(n:Nat):Nat→List α→List (List α)
 |0,_=>[]
 |k+1,l=>l.take n::chunk n k (l.drop n)
theorem yI{α:Type}(n:Nat): ∀(k:Nat) (l:List α),(chunk n k l).length=k
 |0,_=>rfl
 |k+1,l=>by simp[chunk,yI n k]
theorem O1{α:Type}(n:Nat): ∀(k:Nat) (l:List α),l.length=k*n→∀e∈chunk n k l,e.length=n
 |0,_,_,e,he=>by simp[chunk]at he
 |k+1,l,h,e,he=>by
  rw[Nat.succ_mul]at h;simp only[chunk,List.mem_cons]at he
  rcases he with rfl|he
  ·simp;omega
  ·exact O1 n k (l.drop n) (by simp;omega) e he
theorem O2{α:Type}(n:Nat): ∀(k:Nat) (l:List α),l.length=k*n→(chunk n k l).flatten=l
 |0,l,h=>by
  have:l=[]:=List.eq_nil_of_length_eq_zero (by simpa using h)
  simp[chunk,this]
 |k+1,l,h=>by
  rw[Nat.succ_mul]at h;simp only[chunk,List.flatten_cons];rw[O2 n k (l.drop n) (by simp;omega),List.take_append_drop]
theorem kA.HK{w:World}{t:TypeId}{n:Nat}{v:Value}{len:Nat}{xs:List Value}(h:w.ownsRow 0 t n v len xs):kA w t n v len xs:=by
 obtain⟨ao,af⟩:=h
 refine⟨ao,?_⟩
 rcases af with⟨aa,ad⟩|⟨g,cap,cur,av,_,ah,hle,iS,fA,aG⟩
 ·exact .inl ⟨⟨none,aa,fun _ h=>(by cases h)⟩,ad⟩
 ·by_cases hc:cap=0
  ·subst hc
   have:len=0:=by omega
   subst this;exact .inl ⟨⟨_,av,fun a aI=>(by cases aI;exact(Array.getElem?_eq_some_iff.1 ah).1)⟩,rfl⟩
  ·exact .inr ⟨g,cap,cur,av,by omega,ah,hle,iS,fA,aG⟩
def vT(P:Program)(G:a7)(o:Oper)(s:aN)(t:TypeId)(n:Nat)(es:List (List bh)):Prop:=
 (∀e∈es,e.length=n)∧∀E a w β ro,c9 E G s a w β ro→∃v xs w',(execOp a.eval o).run P w= .ok (.value v) w'∧w'.ownsRow 0 t n v es.length xs∧w.grownBy w' none∧(∀b,cf v=some b→w.heap.size≤b)∧
  ∀j x,es.flatten[j]? =some x→dt w ro x (xs.getD j undef)
theorem eh.newRow{o:Oper}{t:TypeId}{n:Nat}{es:List (List bh)}(ae:s.base≤s.next)(aX:vT P G o s t n es):
 eh P G o s ({s with heap:=(s.next,.row false t n es)::s.heap,next:=s.next+1}.put o.dst (.aP s.next)):=by
 obtain⟨hn,h⟩:=aX
 intro E a w ⟨β,ro,af⟩ K Q hK
 obtain⟨v,xs,w',cU,jt,c2,gQ,fk⟩:=h E a w β ro af
 unfold Oper.wp
 rw[cU]
 have k6:aF s.heap s.next=none:=by
  cases ah:aF s.heap s.next with
  |none=>rfl
  |some p=>have:=af.trans.new _ _ ah;omega
 have hw: ∀b,b<w.heap.size→w'.heap[b]? =w.heap[b]? :=fun b ae=>c2.block b ae (by simp)
 have cc: ∀b,ro b→w'.heap[b]? =w.heap[b]? :=fun b ae=>hw b (af.heap.lt b ae)
 have gi:c9 E G {s with heap:=(s.next,.row false t n es)::s.heap,next:=s.next+1} a w' (hq β s.next v) ro:=by
  refine af.new s.next k6 ae (Nat.le_refl _) _ v c2.os c2.tape c2.output c2.size hw gQ rfl ?_
  exact .row t n es xs (by rw[eA];exact .HK jt) hn fun j x ai=>(fk j x ai).keep cc fun _ h=>h
 refine hK _ _ ⟨_,ro,gi.put o.dst _ _ ?_⟩
 exact .aP _ _ (Nat.lt_succ_self _) fun z bw cR ez _=>(eA _ _ _).symm
theorem Yk{o:Oper}(t:TypeId)(len:Nat)(parts:Array (Nat × Operand))(an:o.op= .buildSlice t len parts){e n:Nat}(hu:P.underlying t=some (.slice e))(bK:(P.info? e).map (·.size)=some n)
 {zs:List Value}(bu:zeroCells P e=some zs)(r7:zs.all Value.oneCell'=true)(mg:zs.length=n)(hlen:0<len*n∧len*n≤16777216)
 {ps:List (Nat × aE)}(qV:parts.toList.map (fun p=>(p.1,aJ G s p.2))=ps)(dU:ps.all (fun p=>(cA p.2).all (eo s.heap))=true)
 {ds:List aE}(hf:jW (fun i=>some (i*n,n)) ((List.replicate len (zs.map fun z=>aE.au (.v z))).flatten) ps=some ds){rs:List bh}(nH:iw ds=some rs):
 vT P G o s e n (chunk n len rs):=by
 have nd:ds.length=len*n:=by
  have: ∀(ps:List (Nat × aE)) (cs ds:List aE),jW (fun i=>some (i*n,n)) cs ps=some ds→ds.length=cs.length:=by
   intro ps
   induction ps with
   |nil=>intro cs ds h;simp[jW]at h;rw[h]
   |cons p r aR=>
    intro cs ds h;obtain⟨i,v⟩:=p;simp only[jW]at h
    split at h
    ·rename_i hc
     rw[aR _ _ h,px _ _ _ (by omega)]
    ·cases h
  rw[this ps _ _ hf,jS (n:=n) (fun e he=>by rw[List.mem_replicate]at he;rw[he.2];simpa using mg)]
  simp
 have O3:rs.length=len*n:=by rw[←nd,BV nH];simp
 refine⟨O1 n len rs O3,fun E a w β ro af=>?_⟩
 obtain⟨aa,ad⟩:=HJ af qV dU
 obtain⟨z,mc,oz,_⟩:=yv bu w
 have fk:(List.replicate len (zs.map fun z=>aE.au (.v z))).flatten.length=len*n:=by
  rw[jS (n:=n) (fun e he=>by rw[List.mem_replicate]at he;rw[he.2];simpa using mg)];simp
 have Yl:zs.toArray.size=n:=by simpa using mg
 have qX:0<n:=by
  rcases Nat.eq_zero_or_pos n with h|h
  ·rw[h]at hlen;simp at hlen
  ·exact h
 obtain⟨ys,g1,g2,g3⟩:=B7 (place':=fun i=>some (i*n,n)) (fun _ _ h=>h) af.heap hf aa ad (xs:=(Array.range (len*n)).map fun x=>zs.toArray[x%zs.toArray.size]!) (by rw[fk];simp) (fun j x ai=>by
  have dT:j<len*n:=by rw[←fk];exact(List.getElem?_eq_some_iff.1 ai).1
  have hm:j=(j/ n)*n+j%n:=by rw[Nat.mul_comm];exact(Nat.div_add_mod j n).symm
  have nQ:j%n<n:=Nat.mod_lt _ qX
  have nR:j/ n<len:=by rw[Nat.div_lt_iff_lt_mul qX];exact dT
  rw[hm,qH (n:=n) (fun e he=>by rw[List.mem_replicate]at he;rw[he.2];simpa using mg) (i:=j/ n) (e:=zs.map fun z=>aE.au (.v z)) (by simp[nR]) (j%n) nQ]at ai
  have:=HI (w:=w) (ro:=ro) (σ:=s.heap) (β:=β) (N:=s.next) r7 (j%n) x ai
  have aA:(Array.map (fun x=>zs.toArray[x%zs.toArray.size]!) (Array.range (len*n))).getD j undef=zs.toArray.getD (j%n) undef:=by
   have aq:j%n<zs.length:=by omega
   simp[dT,mg,List.getElem?_eq_getElem aq]
  rw[aA]
  exact this)
 have ma:ys.toList.length=(chunk n len rs).length*n:=by rw[yI];simpa[nd]using g2
 refine⟨.slice (some ⟨w.heap.size,0,none⟩) len len,ys.toList,w.alloc (.cells ys e),?_,?_,World.grownBy_alloc w _ none,fun b bc=>?_,fun j x ai=>?_⟩
 ·have yJ:(sizeOf e).run P w= .ok n w:=by
   cases hi:P.info? e with
   |none=>simp[hi]at bK
   |some i=>simp[hi]at bK;simp[sizeOf,typeInfo,hi,bK]
  have cb: ¬len*n>2^24:=by omega
  have kF: ¬len*n=0:=by omega
  simp only[execOp,an,Sem.run_bind,Instr.buildSlice,run_underlying hu,Result.andThen_ok,yJ,if_neg cb,if_neg kF,mc,Sem.run_pure,oz]
  erw [g1]
  simp[newRow]
 ·rw[yI]
  exact World.ownsRow_lit w ys len (Nat.zero_le _) (by simp only[maxLen];have:=Nat.le_mul_of_pos_right len qX;omega) (by simpa[nd]using g2)
 ·simp only[cf]at bc
  split at bc
  ·cases bc
  ·simp at bc;omega
 ·rw[O2 n len rs O3]at ai
  have aq:=g3 j (.au x) (by rw[BV nH];simp[ai])
  cases aq with
  |au _ _ aq=>
   have:ys.toList.getD j undef=ys.getD j undef:=by simp[List.getD,Array.getD_eq_getD_getElem?]
   rw[this];exact aq
end
end Go.aM
