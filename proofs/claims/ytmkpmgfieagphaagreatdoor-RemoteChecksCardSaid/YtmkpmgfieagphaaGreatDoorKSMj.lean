/- The AV calculus, part G: code, loops, the beginning and the end of a call. Conditions: none. -/
import Derived.Test.YtmkpmgfieagphaaGreatDoorKSMf
namespace Go.aK
open Go
def lift(E:Entry)(G:a7)(Q:Exit→aO→Prop):Exit→Act→World→Prop:=fun e a w=>∃s,Q e s∧Rel E G s a w
def b1(P:Program)(G:a7)(c:Code)(Q:Exit→aO→Prop)(s:aO):Prop:=∀E a w,Rel E G s a w→c.wp P (lift E G Q) a w
def cu(P:Program)(G:a7)(ops:Array Oper)(Q:Exit→aO→Prop)(l:List Oper)(s:aO):Prop:=∀E a w,Rel E G s a w→wpList P ops (lift E G Q) l a w
section
variable {P:Program} {G:a7} {Q:Exit→aO→Prop} {s:aO}
theorem b1.region{id:Nat}{l:List Oper}(h:cu P G l.toArray Q l s):b1 P G (.region id l.toArray false) Q s:=fun E a w ag=>wp_region_lit (h E a w ag)
theorem cu.nil{ops:Array Oper}(h:Q .normal s):cu P G ops Q [] s:=fun _ _ _ ag=>wpList_nil ⟨s,h,ag⟩
theorem cu.cons{ops:Array Oper}{o:Oper}{rest:List Oper}{bo:aO}(ah:o.guard=none)(h:dQ P G o s bo)(k:cu P G ops Q rest bo):cu P G ops Q (o::rest) s:=
 fun E a w ag=>wpList_plain ah fun _ hK=>h E a w ag _ _ fun bb w' dW=>hK bb w' (k E bb w' dW)
def ml(ops:Array Oper)(j:Nat):Option Nat:=(ops[j]?).bind (·.dst)
theorem J8{ops:Array Oper}{E:Entry}{a:Act}{w:World}(ag:Rel E G s a w){j d:Nat}(af:ml ops j=some d){b:Bool}(hd:s.cR[d]? =some (.av (.v (.bool b)))):yielded ops a.tmps j=some b:=by
 obtain⟨β,ro,h⟩:=ag
 have ai:=br.val (h.slot d _ hd)
 have bG:d<a.tmps.size:=by rw[h.size];exact(List.getElem?_eq_some_iff.1 hd).1
 unfold ml at af
 unfold yielded
 rw[af]
 simp only[Option.bind_some]
 simp[bG]at ai
 simp[bG,ai]
theorem Rs{ops:Array Oper}{E:Entry}{a:Act}{w:World}(ag:Rel E G s a w){j d:Nat}(af:ml ops j=some d){cs:List aD}(hd:s.cR[d]? =some (.tuple cs)):yielded ops a.tmps j=none:=by
 obtain⟨β,ro,h⟩:=ag
 have ai:=h.slot d _ hd
 have bG:d<a.tmps.size:=by rw[h.size];exact(List.getElem?_eq_some_iff.1 hd).1
 unfold ml at af
 unfold yielded
 rw[af]
 simp only[Option.bind_some]
 simp[bG]at ai
 generalize a.tmps[d]=c at ai
 have aH:a.tmps[d]? =some a.tmps[d]:=by simp[bG]
 have ai:=h.slot d _ hd
 simp[bG]at ai
 cases eW:a.tmps[d]with
 |tuple x=>simp[aH,eW]
 |_=>rw[eW]at ai;cases ai
theorem cu.guarded{ops:Array Oper}{o:Oper}{rest:List Oper}{bo:aO}{j d:Nat}{b:Bool}(ah:o.guard=some (j,b))(af:ml ops j=some d)(hd:s.cR[d]? =some (.av (.v (.bool b))))
 (h:dQ P G o s bo)(k:cu P G ops Q rest bo):cu P G ops Q (o::rest) s:=
 fun E a w ag=>wpList_step fun _ hK=>by
  have ax:=J8 ag af hd
  simp only[Region.wanted,ah,ax,beq_self_eq_true,if_true];exact h E a w ag _ _ fun bb w' dW=>hK bb w' (k E bb w' dW)
theorem Rel.Dp{E:Entry}{a:Act}{w:World}(ag:Rel E G s a w)(dst:Option Nat):Rel E G (s.put dst (.tuple [])) (a.put dst undef) w:=by
 obtain⟨β,ro,h⟩:=ag
 exact⟨β,ro,h.put dst _ _ (.tuple _ _ rfl (by simp))⟩
theorem cu.zdg{ops:Array Oper}{o:Oper}{rest:List Oper}{j d:Nat}{b:Bool}(ah:o.guard=some (j,b))(af:ml ops j=some d)(hd:s.cR[d]? =some (.av (.v (.bool (!b)))))
 (k:cu P G ops Q rest (s.put o.dst (.tuple []))):cu P G ops Q (o::rest) s:=
 fun E a w ag=>by
  have ax:=J8 ag af hd
  refine wpList_skip ?_ (k E _ w (ag.Dp o.dst))
  simp only[Region.wanted,ah,ax]
  cases b<;>rfl
theorem cu.zdh{ops:Array Oper}{o:Oper}{rest:List Oper}{j d:Nat}{b:Bool}(ah:o.guard=some (j,b))(af:ml ops j=some d){cs:List aD}(hd:s.cR[d]? =some (.tuple cs))
 (k:cu P G ops Q rest (s.put o.dst (.tuple []))):cu P G ops Q (o::rest) s:=
 fun E a w ag=>by
  have ax:=Rs ag af hd
  refine wpList_skip ?_ (k E _ w (ag.Dp o.dst))
  simp only[Region.wanted,ah,ax]
  cases b<;>rfl
def zdi(P:Program)(G:a7)(c:Code)(Q:Exit→aO→Prop):Exit→aO→Prop
 | .normal,s=>b1 P G c Q s
 |e,s=>Q e s
theorem b1.seq{x y:Code}(h:b1 P G x (zdi P G y Q) s):b1 P G (.seq x y) Q s:=fun E a w ag=>by
 refine wp_seq (wp_mono (h E a w ag) fun e bb w' aH=>?_)
 obtain⟨bo,aa,ae⟩:=aH
 cases e with
 |normal=>exact aa E bb w' ae
 |_=>exact⟨bo,aa,ae⟩
theorem b1.cond{x:Operand}{c d:Code}{b:Bool}(hx:aI G s x= .av (.v (.bool b)))(aG:b=true→b1 P G c Q s)(hf:b=false→b1 P G d Q s):b1 P G (.cond x c d) Q s:=fun E a w ag=>by
 obtain⟨β,ro,h⟩:=ag
 exact wp_cond_split (h.ee hx) (fun e=>aG e E a w ⟨β,ro,h⟩) (fun e=>hf e E a w ⟨β,ro,h⟩)
theorem b1.Rt{x:Operand}{c d:Code}(hx:aI G s x= .av (.v (.bool true)))(aG:b1 P G c Q s):b1 P G (.cond x c d) Q s:=b1.cond hx (fun _=>aG) (fun h=>by cases h)
theorem b1.Ru{x:Operand}{c d:Code}(hx:aI G s x= .av (.v (.bool false)))(hf:b1 P G d Q s):b1 P G (.cond x c d) Q s:=b1.cond hx (fun h=>by cases h) (fun _=>hf)
theorem b1.skip(h:Q .normal s):b1 P G .skip Q s:=fun _ _ _ ag=>wp_skip ⟨s,h,ag⟩
theorem b1.ret(h:Q .ret s):b1 P G .ret Q s:=fun _ _ _ ag=>wp_ret ⟨s,h,ag⟩
theorem b1.exit{id:Nat}(h:Q (.exit id) s):b1 P G (.exit id) Q s:=fun _ _ _ ag=>wp_exit ⟨s,h,ag⟩
theorem b1.mono{c:Code}{Q':Exit→aO→Prop}(h:b1 P G c Q s)(aH: ∀e s,Q e s→Q' e s):b1 P G c Q' s:=fun E a w ag=>
 wp_mono (h E a w ag) fun e _ _ ⟨bo,aa,ae⟩=>⟨bo,aH e bo aa,ae⟩
def Rv(id:Nat)(Q:Exit→aO→Prop):Exit→aO→Prop
 | .exit gk,s=>bif Nat.beq gk id then Q .normal s else Q (.exit gk) s
 |e,s=>Q e s
theorem b1.block{id:Nat}{c:Code}(h:b1 P G c (Rv id Q) s):b1 P G (.block id c) Q s:=fun E a w ag=>by
 refine wp_block (wp_mono (h E a w ag) fun e bb w' aH=>?_)
 obtain⟨bo,aa,ae⟩:=aH
 cases e with
 |exit gk=>
  simp only[Rv,Exit.inBlock]at*
  split
  ·rename_i he
   have ad:Nat.beq gk id=true:=by simpa using he
   rw[ad]at aa;exact⟨bo,aa,ae⟩
  ·rename_i he
   have ad:Nat.beq gk id=false:=by
    cases aH:Nat.beq gk id with
    |false=>rfl
    |true=>exact absurd (Nat.eq_of_beq_eq_true aH) he
   rw[ad]at aa;exact⟨bo,aa,ae⟩
 |_=>exact⟨bo,aa,ae⟩
def cm(s bo:aO):Prop:=∀E (G:a7) a w,Rel E G s a w→Rel E G bo a w
theorem cm.refl(s:aO):cm s s:=fun _ _ _ _ h=>h
theorem cm.trans{s bo Rw:aO}(h:cm s bo)(k:cm bo Rw):cm s Rw:=fun E G a w ag=>k E G a w (h E G a w ag)
theorem b1.le{c:Code}{bo:aO}(h:cm s bo)(k:b1 P G c Q bo):b1 P G c Q s:=fun E a w ag=>k E a w (h E G a w ag)
theorem cu.le{ops:Array Oper}{l:List Oper}{bo:aO}(h:cm s bo)(k:cu P G ops Q l bo):cu P G ops Q l s:=fun E a w ag=>k E a w (h E G a w ag)
theorem b1.loop{ι:Type}(st:ι→aO)(inv:ι→Prop)(mu:ι→Nat){c:Code}(x:ι)(aL:cm s (st x))(hi:inv x)
    (round: ∀x,inv x→b1 P G c (fun e bo=>match e with
      | .normal=>∃y,inv y∧mu y<mu x∧cm bo (st y)
      |e=>Q e bo) (st x)):b1 P G (.loop c) Q s:=fun E a w ag=>by
  have key: ∀n x,mu x=n→inv x→∀a w,Rel E G (st x) a w→(Code.loop c).wp P (lift E G Q) a w:=by
    intro n x hn hx a w ag;refine wp_loop (fun a w=>∃y,inv y∧Rel E G (st y) a w) (fun a w=>Classical.epsilon fun m=>∃y,inv y∧Rel E G (st y) a w∧mu y=m∧∀z,inv z→Rel E G (st z) a w→m≤mu z) ⟨x,hx,ag⟩ ?_
    intro a w ⟨c6,wW,zdj⟩
    have hex: ∃m,∃y,inv y∧Rel E G (st y) a w∧mu y=m∧∀z,inv z→Rel E G (st z) a w→m≤mu z:=by
      have: ∀k y,mu y=k→inv y→Rel E G (st y) a w→∃m,∃y,inv y∧Rel E G (st y) a w∧mu y=m∧∀z,inv z→Rel E G (st z) a w→m≤mu z:=by
        intro k
        induction k using Nat.strongRecOn with
        |_ k aX=>
          intro y aj ax zO
          by_cases rB: ∀z,inv z→Rel E G (st z) a w→mu y≤mu z
          · exact⟨mu y,y,ax,zO,rfl,rB⟩
          · simp only[Classical.not_forall]at rB
            obtain⟨z,aR,j5,bG⟩:=rB;exact aX (mu z) (by omega) z rfl aR j5
      exact this _ c6 rfl wW zdj
    obtain⟨y,ax,zO,zdk,_⟩:=Classical.epsilon_spec hex;refine wp_mono (round y ax E a w zO) fun e bb w' aH=>?_
    obtain⟨bo,aa,ae⟩:=aH
    cases e with
    |normal=>
      obtain⟨z,aR,bG,hle⟩:=aa
      have j5:=hle E G bb w' ae
      refine⟨⟨z,aR,j5⟩,?_⟩
      have zdl: ∃m,∃y,inv y∧Rel E G (st y) bb w'∧mu y=m∧∀z,inv z→Rel E G (st z) bb w'→m≤mu z:=by
        have: ∀k y,mu y=k→inv y→Rel E G (st y) bb w'→∃m,∃y,inv y∧Rel E G (st y) bb w'∧mu y=m∧∀z,inv z→Rel E G (st z) bb w'→m≤mu z:=by
          intro k
          induction k using Nat.strongRecOn with
          |_ k aX=>
            intro y aj ax zO
            by_cases rB: ∀z,inv z→Rel E G (st z) bb w'→mu y≤mu z
            · exact⟨mu y,y,ax,zO,rfl,rB⟩
            · simp only[Classical.not_forall]at rB
              obtain⟨z,aR,j5,bG⟩:=rB;exact aX (mu z) (by omega) z rfl aR j5
        exact this _ z rfl aR j5
      obtain⟨_,_,_,_,rB⟩:=Classical.epsilon_spec zdl
      have au:=rB z aR j5
      rw[←zdk];exact Nat.lt_of_le_of_lt au bG
    |_=>exact⟨bo,aa,ae⟩
  exact key _ x rfl hi a w (aL E G a w ag)
end
def dF(P:Program)(G:a7)(f:FuncId)(args:List aD)(σ:Heap)(n:Nat)(Q:aD→Heap→Prop):Prop:=
 ∀w β ro (ec:Array Value),ec.size=args.length→(∀i x,args[i]? =some x→br w ro σ β n x (ec.getD i undef))→hh w ro σ β n→so w ro G→(∀id o,aE σ id=some o→id<n)→
  Calls P f ec w fun e w'=>∃v r eU dL ro' cI,e= .returned v∧Q r eU∧br w' ro' eU dL cI r v∧hh w' ro' eU dL cI∧Trans ⟨w,ro,σ,β,n⟩ w' ro' eU dL cI
def m2(P:Program)(s:aO):List ResultVar→Option (List aD)
 |[]=>some []
 | .tmp t::r=>match m2 P s r with
  |some l=>some (s.cR.getD t .top::l)
  |none=>none
 | .cell p t::r=>match m2 P s r,fo s.heap (s.cR.getD p .top)with
  |some l,some cs=>match mh P t with
   |some n=>if n≤cs.length∧0<n then some (.agg (cs.take n)::l)else none
   |none=>if scalar P t then match cs with
    |y::_=>some (y::l)
    |[]=>none
    else none
  |_,_=>none
def zP(P:Program)(fn:Func)(s:aO):Option aD:=
 match m2 P s fn.results.toList with
 |some [x]=>some x
 |some l=>some (.tuple l)
 |none=>none
def zdm(P:Program)(fn:Func)(Q:aD→Heap→Prop):Exit→aO→Prop:=fun e s=>
 (e= .normal∨e= .ret)∧∃r eU,zP P fn s=some r∧(∀id o,aE eU id=some o→aE s.heap id=some o)∧Q r eU
theorem hh.sub{w:World}{ro:Nat→Prop}{σ eU:Heap}{β:Nat→Value}{N:Nat}(h:hh w ro σ β N)(ai: ∀id o,aE eU id=some o→aE σ id=some o):hh w ro eU β N:=by
 refine⟨fun id o ah=>(h.c5 id o (ai id o ah)).keep (fun _ _=>rfl) (fun _ h=>h) (Nat.le_refl _) (Nat.le_refl _) rfl (fun _ _ _=>rfl) (fun id t cs ah=>⟨rfl,t,cs,ai id _ ah⟩) (fun id z t n es ah=>⟨rfl,z,t,es,ai id _ ah⟩) (fun id bO ah=>⟨rfl,bO,ai id _ ah⟩),
  fun id gk o cz b aa ae=>h.inj id gk o cz b (ai id o aa) (ai gk cz ae),fun b ad ⟨id,o,ah,aq,bf⟩=>h.fg b ad ⟨id,o,ai id o ah,aq,bf⟩,h.lt⟩
theorem br.sub{w:World}{ro:Nat→Prop}{σ eU:Heap}{β:Nat→Value}{N:Nat}{x:aD}{c:Value}(h:br w ro σ β N x c)(ai: ∀id o,aE eU id=some o→aE σ id=some o):br w ro eU β N x c:=
 h.keep (fun _ _=>rfl) (fun _ h=>h) (Nat.le_refl _) (fun id t cs ah=>⟨rfl,t,cs,ai id _ ah⟩) (fun id z t _ es ah=>⟨rfl,z,t,es,ai id _ ah⟩) (fun id bO ah=>⟨rfl,bO,ai id _ ah⟩)
theorem Trans.sub{E:Entry}{w:World}{ro:Nat→Prop}{σ eU:Heap}{β:Nat→Value}{n:Nat}(h:Trans E w ro σ β n)(ai: ∀id o,aE eU id=some o→aE σ id=some o):Trans E w ro eU β n:=
 ⟨h.os,h.tape,h.output,h.size,h.frame,h.jk,h.j1,fun b ⟨id,o,ah,aq,bf⟩=>h.hj b ⟨id,o,ai id o ah,aq,bf⟩,fun id hi o ah=>h.dK id hi o (ai id o ah),fun id o ah=>h.new id o (ai id o ah),h.le⟩
section
variable {P:Program} {G:a7}
def uS(tmps:Array Value):ResultVar→Sem Value
 | .tmp t=>pure (tmps.getD t undef)
 | .cell p t=>do
  let b ←asAddr (tmps.getD p undef)
  loadVar t b
theorem zdn(fn:Func)(tmps:Array Value):results fn tmps=(do
    let vs ←fn.results.mapM (uS tmps)
    pure (if h:vs.size=1 then vs[0]else .tuple vs)):=by
  unfold results
  have:(fun x=>match x with
      |ResultVar.tmp t=>(pure (tmps.getD t undef):Sem Value)
      |ResultVar.cell p t=>do
        let b ←asAddr (tmps.getD p undef)
        loadVar t b)=uS tmps:=by
    funext x
    cases x<;>rfl
  rw[←this];rfl
theorem J9{E:Entry}{s:aO}{a:Act}{w:World}{β:Nat→Value}{ro:Nat→Prop}(h:c2 E G s a w β ro): ∀{rs:List ResultVar} {l:List aD},m2 P s rs=some l→
 ∃vs:List Value,(rs.mapM (uS a.tmps)).run P w= .ok vs w∧vs.length=l.length∧∀j x,l[j]? =some x→br w ro s.heap β s.next x (vs.getD j undef)
 |[],l,aq=>by
  simp[m2]at aq;subst aq;exact⟨[],by simp,rfl,by simp⟩
 | .tmp t::r,l,aq=>by
  simp only[m2]at aq
  cases ag:m2 P s r with
  |none=>simp[ag]at aq
  |some h1=>
   simp only[ag,Option.some.injEq]at aq;subst aq;obtain⟨vs,aa,ae,au⟩:=J9 h ag;refine⟨a.tmps.getD t undef::vs,by simp only[List.mapM_cons,Sem.run_bind,uS,Sem.run_pure,Result.andThen_ok,aa],by simp[ae],fun j x af=>?_⟩
   cases j with
   |zero=>
    simp at af;subst af;exact h.eval (.tmp t)
   |succ j=>exact au j x af
 | .cell p t::r,l,aq=>by
  simp only[m2]at aq
  cases ag:m2 P s r with
  |none=>simp[ag]at aq
  |some h1=>
   cases hc:fo s.heap (s.cR.getD p .top)with
   |none=>rw[ag,hc]at aq;cases aq
   |some cs=>
    rw[ag,hc]at aq;simp only at aq;obtain⟨vs,aa,ae,au⟩:=J9 h ag
    have dS:=h.eval (.tmp p)
    simp only[aI,Act.eval]at dS
    cases bQ:mh P t with
    |some n=>
     simp only[bQ]at aq
     split at aq
     ·rename_i hn
      simp only[Option.some.injEq]at aq;subst aq;obtain⟨cW,uT,f,hf⟩:=wS h.heap hc dS (by intro e;subst e;simp at hn;omega)
      obtain⟨g1,g2⟩:=Di bQ w
      have mm:=run_loadCells (P:=P) w cW n f (fun j af=>(hf j (cs[j]'(by omega)) (by simp)).1)
      refine⟨.agg ((List.range n).map f).toArray::vs,?_,by simp[ae],fun j x af=>?_⟩
      ·simp only[List.mapM_cons,Sem.run_bind,uS,uT,asAddr,Sem.run_pure,Result.andThen_ok,loadVar,g1,g2,if_true,mm,aa]
      ·cases j with
       |zero=>
        simp at af;subst af;refine .agg _ _ (by simp;omega) fun j y af=>?_
        rw[List.getElem?_take]at af
        split at af
        ·have:=(hf j y af).2
         rename_i mT;simpa[mT]using this
        ·cases af
       |succ j=>exact au j x af
     ·cases aq
    |none=>
     simp only[bQ]at aq
     split at aq
     ·rename_i hsc
      cases cs with
      |nil=>simp at aq
      |cons y cs'=>
       simp only[Option.some.injEq]at aq;subst aq;obtain⟨cW,uT,f,hf⟩:=wS h.heap hc dS (by simp)
       have g1:=zD hsc w
       obtain⟨k9,dA⟩:=hf 0 y rfl;rw[show cW.add 0=cW from by simp[Addr.add]]at k9
       refine⟨f 0::vs,?_,by simp[ae],fun j x af=>?_⟩
       ·simp only[List.mapM_cons,Sem.run_bind,uS,uT,asAddr,Sem.run_pure,Result.andThen_ok,loadVar,g1]
        simp[run_load,k9,aa]
       ·cases j with
        |zero=>simp at af;subst af;exact dA
        |succ j=>exact au j x af
     ·cases aq
theorem zdo{E:Entry}{s:aO}{a:Act}{w:World}{β:Nat→Value}{ro:Nat→Prop}(h:c2 E G s a w β ro){fn:Func}{r:aD}(ag:zP P fn s=some r):
 ∃v,(results fn a.tmps).run P w= .ok v w∧br w ro s.heap β s.next r v:=by
 unfold zP at ag
 cases aZ:m2 P s fn.results.toList with
 |none=>simp[aZ]at ag
 |some l=>
  rw[aZ]at ag;obtain⟨vs,aa,ae,au⟩:=J9 h aZ
  have hm:(fn.results.mapM (uS a.tmps)).run P w= .ok vs.toArray w:=by
   rw[Array.mapM_eq_mapM_toList];simp only[Sem.run_map,aa]
   first|rfl|simp
  have rC:(results fn a.tmps).run P w= .ok (if h:vs.toArray.size=1 then vs.toArray[0]else .tuple vs.toArray) w:=by
   rw[zdn,Sem.run_bind,hm];rfl
  refine⟨_,rC,?_⟩
  match l,aZ,ag,ae,au with
  |[x],_,ag,ae,au=>
   injection ag with ag
   subst ag
   have wb:vs.toArray.size=1:=by simpa using ae
   rw[dif_pos wb]
   have:=au 0 x rfl
   have Dq:0<vs.length:=by simp at wb;omega
   simpa[List.getD,Dq]using this
  |[],_,ag,ae,au=>
   injection ag with ag
   subst ag
   have:vs=[]:=List.eq_nil_of_length_eq_zero (by simpa using ae)
   subst this;exact .tuple _ _ rfl (by simp)
  |x::y::h1,_,ag,ae,au=>
   injection ag with ag
   subst ag;rw[dif_neg (by simp at ae⊢;omega)]
   refine .tuple _ _ (by simpa using ae) fun j z af=>?_
   have:=au j z af
   simpa[List.getD,Array.getD_eq_getD_getElem?]using this
theorem dF.Qm{f:FuncId}{fn:Func}{c:Code}{args:List aD}{σ:Heap}{n k:Nat}{Q:aD→Heap→Prop}(hf:P.funcs[f]? =some fn)(ad:fn.body=some c)(aj:fn.ntmps-args.length=k)
 (h:b1 P G c (zdm P fn Q) ⟨args++List.replicate k .top,σ,n,n⟩):dF P G f args σ n Q:=by
 intro w β ro ec bM h2 ba ah bG
 refine calls_of_wp hf ad (wp_mono (h ⟨w,ro,σ,β,n⟩ _ w ⟨β,ro,rfl,?_,?_,ba,ah,?_,Nat.le_refl _⟩) ?_)
 ·simp[bM,aj]
 ·intro i x hi
  simp only at hi
  by_cases Ka:i<args.length
  ·rw[List.getElem?_append_left Ka]at hi
   have:=h2 i x hi
   have aa:i<ec.size:=by omega
   simpa[Array.getElem?_append_left aa,aa,Array.getElem_append_left aa]using this
  ·rw[List.getElem?_append_right (by omega)]at hi
   rw[List.getElem?_replicate]at hi
   split at hi
   ·simp only[Option.some.injEq]at hi;subst hi;exact .top _
   ·cases hi
 ·exact⟨rfl,rfl,rfl,Nat.le_refl _,fun _ _ _=>rfl,fun _ h=>.inl h,fun _ h=>h,fun _ h=>.inl h,fun id _ o an=>⟨by rw[an];simp,rfl⟩,bG,Nat.le_refl _⟩
 ·intro e bb w' ⟨bo,aH,dL,ro',ag⟩
  obtain⟨he,r,eU,rC,gz,eu⟩:=aH;obtain⟨v,aw,dA⟩:=zdo ag rC
  rcases he with rfl|rfl
  ·exact⟨ag.defers,v,aw,v,r,eU,dL,ro',bo.next,rfl,eu,dA.sub gz,ag.heap.sub gz,ag.trans.sub gz⟩
  ·exact⟨ag.defers,v,aw,v,r,eU,dL,ro',bo.next,rfl,eu,dA.sub gz,ag.heap.sub gz,ag.trans.sub gz⟩
end
end Go.aK
namespace Go.aK
open Go
mutual
def gA(n:Nat):aD→Bool
 | .av _=>true
 | .agg cs=>la n cs
 | .tuple cs=>la n cs
 | .ptr id _=>decide (id<n)
 | .dz id _=>decide (id<n)
 | .cV id _ _=>decide (id<n)
 | .aN id=>decide (id<n)
 | .fn _ p q=>la n p&&la n q
 | .ref id=>decide (id<n)
 | .top=>true
def la(n:Nat):List aD→Bool
 |[]=>true
 |x::r=>gA n x&&la n r
end
theorem rD{n:Nat}: ∀{cs:List aD},la n cs=true→∀{j:Nat} {x:aD},cs[j]? =some x→gA n x=true
 |[],_,j,x,h=>by simp at h
 |y::r,ad,j,x,h=>by
  simp only[la,Bool.and_eq_true]at ad
  cases j with
  |zero=>simp at h;subst h;exact ad.1
  |succ j=>simp at h;exact rD ad.2 h
theorem br.lower{w:World}{ro:Nat→Prop}{σ:Heap}{β:Nat→Value}{N oV:Nat}{x:aD}{c:Value}(h:br w ro σ β N x c)(ad:gA oV x=true):br w ro σ β oV x c:=by
 induction h with
 |av x c hx=>exact .av x c hx
 |agg cs c ai _ aX=>
  simp only[gA]at ad;exact .agg cs c ai fun j x af=>aX j x af (rD ad af)
 |tuple cs c ai _ aX=>
  simp only[gA]at ad;exact .tuple cs c ai fun j x af=>aX j x af (rD ad af)
 |ptr id off c aq ak=>exact .ptr id off c (by simpa[gA]using ad) ak
 |dz id off c aq ak=>exact .dz id off c (by simpa[gA]using ad) ak
 |cV id i off c aq ak=>exact .cV id i off c (by simpa[gA]using ad) ak
 |aN id c aq ak=>exact .aN id c (by simpa[gA]using ad) ak
 |fn f p q c d aa ae _ _ hk hl=>
  simp only[gA,Bool.and_eq_true]at ad;exact .fn f p q c d aa ae (fun j x af=>hk j x af (rD ad.1 af)) (fun j x af=>hl j x af (rD ad.2 af))
 |ref id c aq ak=>exact .ref id c (by simpa[gA]using ad) ak
 |top c=>exact .top c
def wX(σ:Heap):List Nat→Heap
 |[]=>[]
 |id::r=>match aE σ id with
  |some o=>(id,o)::wX σ r
  |none=>wX σ r
theorem Kb(σ:Heap): ∀(ids:List Nat) (id:Nat) (o:ej),aE (wX σ ids) id=some o→aE σ id=some o
 |[],id,o,h=>by simp[wX,aE]at h
 |k::r,id,o,h=>by
  simp only[wX]at h
  cases aj:aE σ k with
  |none=>rw[aj]at h;exact Kb σ r id o h
  |some p=>
   rw[aj]at h;simp only[aE]at h
   split at h
   ·rename_i he
    subst he;rw[aj];exact h
   ·exact Kb σ r id o h
def lb(n:Nat):Heap→Bool
 |[]=>true
 |(id,.box _ cs)::r=>decide (id<n)&&la n cs&&lb n r
 |(id,.row _ _ _ _)::r=>decide (id<n)&&lb n r
 |(id,.bL _)::r=>decide (id<n)&&lb n r
theorem rE{n:Nat}: ∀{σ:Heap},lb n σ=true→∀{id:Nat} {o:ej},aE σ id=some o→id<n∧∀t cs,o= .box t cs→la n cs=true
 |[],_,id,o,h=>by simp[aE]at h
 |(k,.box t cs)::r,ad,id,o,h=>by
  simp only[lb,Bool.and_eq_true,decide_eq_true_eq]at ad;simp only[aE]at h
  split at h
  ·rename_i he
   subst he;simp only[Option.some.injEq]at h;subst h;exact⟨ad.1.1,fun bC cs' he=>by cases he;exact ad.1.2⟩
  ·exact rE ad.2 h
 |(k,.row z t m es)::r,ad,id,o,h=>by
  simp only[lb,Bool.and_eq_true,decide_eq_true_eq]at ad;simp only[aE]at h
  split at h
  ·rename_i he
   subst he;simp only[Option.some.injEq]at h;subst h;exact⟨ad.1,fun bC cs' he=>by cases he⟩
  ·exact rE ad.2 h
 |(k,.bL bO)::r,ad,id,o,h=>by
  simp only[lb,Bool.and_eq_true,decide_eq_true_eq]at ad;simp only[aE]at h
  split at h
  ·rename_i he
   subst he;simp only[Option.some.injEq]at h;subst h;exact⟨ad.1,fun bC cs' he=>by cases he⟩
  ·exact rE ad.2 h
mutual
def hN(σ:Heap):aD→aD
 | .aN id=>match aE σ id with
  |some (.row true _ n es)=>.av (.aN n es)
  |_=>.aN id
 | .agg cs=>.agg (kF σ cs)
 | .tuple cs=>.tuple (kF σ cs)
 | .fn f p q=>.fn f (kF σ p) (kF σ q)
 | .av x=>.av x
 | .ptr id off=>.ptr id off
 | .dz id off=>.dz id off
 | .cV id i off=>.cV id i off
 | .ref id=>.ref id
 | .top=>.top
def kF(σ:Heap):List aD→List aD
 |[]=>[]
 |x::r=>hN σ x::kF σ r
end
theorem nU(σ:Heap): ∀(l:List aD),(kF σ l).length=l.length
 |[]=>rfl
 |x::r=>by simp[kF,nU σ r]
theorem o3(σ:Heap): ∀{l:List aD} {j:Nat} {x:aD},(kF σ l)[j]? =some x→∃y,l[j]? =some y∧x=hN σ y
 |[],j,x,h=>by simp[kF]at h
 |y::r,j,x,h=>by
  cases j with
  |zero=>simp[kF]at h;exact⟨y,by simp,h.symm⟩
  |succ j=>simp[kF]at h;simpa using o3 σ h
theorem zdp{w:World}{ro:Nat→Prop}{σ:Heap}{β:Nat→Value}{N:Nat}(ba:hh w ro σ β N){x:aD}{c:Value}(h:br w ro σ β N x c):br w ro σ β N (hN σ x) c:=by
 induction h with
 |aN id c aq ak=>
  simp only[hN]
  split
  ·rename_i t n es ah
   rw[ak true t n es ah]
   have:=ba.c5 id _ ah
   cases this with
   |ga _ _ _ aa=>exact .av _ _ aa
  ·exact .aN id c aq ak
 |av x c h=>exact .av x c h
 |agg cs c aa _ aX=>
  refine .agg _ c (by rw[nU];exact aa) fun j x af=>?_
  obtain⟨y,ax,rfl⟩:=o3 σ af;exact aX j y ax
 |tuple cs c aa _ aX=>
  refine .tuple _ c (by rw[nU];exact aa) fun j x af=>?_
  obtain⟨y,ax,rfl⟩:=o3 σ af;exact aX j y ax
 |ptr id off c aa ae=>exact .ptr id off c aa ae
 |dz id off c aa ae=>exact .dz id off c aa ae
 |cV id i off c aa ae=>exact .cV id i off c aa ae
 |fn f p q c d aa ae _ _ hk hl=>
  refine .fn f _ _ c d (by rw[nU];exact aa) (by rw[nU];exact ae) (fun j x af=>?_) (fun j x af=>?_)
  ·obtain⟨y,ax,rfl⟩:=o3 σ af
   exact hk j y ax
  ·obtain⟨y,ax,rfl⟩:=o3 σ af
   exact hl j y ax
 |ref id c aa ae=>exact .ref id c aa ae
 |top c=>exact .top c
mutual
def fE:aD→Bool
 | .av _=>true
 | .agg cs=>e3 cs
 | .tuple cs=>e3 cs
 | .fn _ p q=>e3 p&&e3 q
 | .top=>true
 | .ptr _ _=>false
 | .dz _ _=>false
 | .cV _ _ _=>false
 | .aN _=>false
 | .ref _=>false
def e3:List aD→Bool
 |[]=>true
 |x::r=>fE x&&e3 r
end
theorem m3: ∀{cs:List aD},e3 cs=true→∀{j:Nat} {x:aD},cs[j]? =some x→fE x=true
 |[],_,j,x,h=>by simp at h
 |y::r,ad,j,x,h=>by
  simp only[e3,Bool.and_eq_true]at ad
  cases j with
  |zero=>simp at h;subst h;exact ad.1
  |succ j=>simp at h;exact m3 ad.2 h
theorem Dr(l:List a1):e3 (l.map .av)=true:=by
 induction l with
 |nil=>rfl
 |cons x r aX=>simp[e3,fE,aX]
theorem nV{w:World}{ro:Nat→Prop}{σ bU:Heap}{β zQ:Nat→Value}{N M:Nat}{x:aD}{c:Value}(h:br w ro σ β N x c)(ak:fE x=true):br w ro bU zQ M x c:=by
 induction h with
 |av x c h=>exact .av x c h
 |agg cs c aa _ aX=>
  simp only[fE]at ak;exact .agg cs c aa fun j x af=>aX j x af (m3 ak af)
 |tuple cs c aa _ aX=>
  simp only[fE]at ak;exact .tuple cs c aa fun j x af=>aX j x af (m3 ak af)
 |fn f p q c d aa ae _ _ hk hl=>
  simp only[fE,Bool.and_eq_true]at ak;exact .fn f p q c d aa ae (fun j x af=>hk j x af (m3 ak.1 af)) (fun j x af=>hl j x af (m3 ak.2 af))
 |top c=>exact .top c
 |ptr=>simp[fE]at ak
 |dz=>simp[fE]at ak
 |cV=>simp[fE]at ak
 |aN=>simp[fE]at ak
 |ref=>simp[fE]at ak
mutual
def qn(d:Nat):aD→aD
 | .av x=>.av x
 | .agg cs=>.agg (lJ d cs)
 | .tuple cs=>.tuple (lJ d cs)
 | .ptr id off=>.ptr (d+id) off
 | .dz id off=>.dz (d+id) off
 | .cV id i off=>.cV (d+id) i off
 | .aN id=>.aN (d+id)
 | .fn f p q=>.fn f (lJ d p) (lJ d q)
 | .ref id=>.ref (d+id)
 | .top=>.top
def lJ(d:Nat):List aD→List aD
 |[]=>[]
 |x::r=>qn d x::lJ d r
end
def ld(d:Nat):Heap→Heap
 |[]=>[]
 |(id,.box t cs)::r=>(d+id,.box t (lJ d cs))::ld d r
 |(id,.row z t n es)::r=>(d+id,.row z t n es)::ld d r
 |(id,.bL bO)::r=>(d+id,.bL bO)::ld d r
def kG(d:Nat):ej→ej
 | .box t cs=>.box t (lJ d cs)
 | .row z t n es=>.row z t n es
 | .bL bO=>.bL bO
theorem wY(d:Nat): ∀(l:List aD),(lJ d l).length=l.length
 |[]=>rfl
 |x::r=>by simp[lJ,wY d r]
theorem wZ(d:Nat): ∀{l:List aD} {j:Nat} {x:aD},(lJ d l)[j]? =some x→∃y,l[j]? =some y∧x=qn d y
 |[],j,x,h=>by simp[lJ]at h
 |y::r,j,x,h=>by
  cases j with
  |zero=>simp[lJ]at h;exact⟨y,by simp,h.symm⟩
  |succ j=>simp[lJ]at h;simpa using wZ d h
theorem Rx(σ bU:Heap)(id:Nat):aE (σ++bU) id=(aE σ id).or (aE bU id):=by
 induction σ with
 |nil=>simp[aE]
 |cons p r aX=>
  obtain⟨k,o⟩:=p;simp only[List.cons_append,aE]
  split
  ·simp
  ·exact aX
theorem zR(d:Nat): ∀(σ:Heap) (id:Nat),aE (ld d σ) id=if d≤id then(aE σ (id-d)).map (kG d)else none
 |[],id=>by simp[ld,aE]
 |(k,.box t cs)::r,id=>by
  simp only[ld,aE,zR d r]
  by_cases aa:d+k=id
  ·have ae:d≤id:=by omega
   have au:k=id-d:=by omega
   simp[ae,au,kG]
  ·by_cases ae:d≤id
   ·have au: ¬k=id-d:=by omega
    simp[aa,ae,au]
   ·simp[aa,ae]
 |(k,.row z t n es)::r,id=>by
  simp only[ld,aE,zR d r]
  by_cases aa:d+k=id
  ·have ae:d≤id:=by omega
   have au:k=id-d:=by omega
   simp[ae,au,kG]
  ·by_cases ae:d≤id
   ·have au: ¬k=id-d:=by omega
    simp[aa,ae,au]
   ·simp[aa,ae]
 |(k,.bL bO)::r,id=>by
  simp only[ld,aE,zR d r]
  by_cases aa:d+k=id
  ·have ae:d≤id:=by omega
   have au:k=id-d:=by omega
   simp[ae,au,kG]
  ·by_cases ae:d≤id
   ·have au: ¬k=id-d:=by omega
    simp[aa,ae,au]
   ·simp[aa,ae]
theorem br.shift{w:World}{ro ro':Nat→Prop}{σ bU:Heap}{β zQ:Nat→Value}{N M:Nat}{x:aD}{c:Value}(h:br w ro σ β N x c)(cb: ∀b,ro b→ro' b)
 (Kc: ∀id o,aE bU id=some o→id<M):
 br w ro' (ld M σ++bU) (fun k=>if M≤k then β (k-M)else zQ k) (M+N) (qn M x) c:=by
 have key: ∀id,aE (ld M σ++bU) (M+id)=(aE σ id).map (kG M):=by
  intro id;rw[Rx,zR]
  have aa:M≤M+id:=by omega
  simp only[aa,if_true,Nat.add_sub_cancel_left]
  cases ai:aE σ id with
  |some o=>simp
  |none=>
   simp
   cases aG:aE bU (M+id)with
   |none=>rfl
   |some o=>have:=Kc _ _ aG;omega
 induction h with
 |av x c hx=>exact .av x c (hx.keep (fun _ _=>rfl) cb)
 |agg cs c ai _ aX=>
  refine .agg _ c (by rw[wY];exact ai) fun j x af=>?_
  obtain⟨y,ax,rfl⟩:=wZ M af;exact aX j y ax
 |tuple cs c ai _ aX=>
  refine .tuple _ c (by rw[wY];exact ai) fun j x af=>?_
  obtain⟨y,ax,rfl⟩:=wZ M af;exact aX j y ax
 |ptr id off c aq ak=>
  refine .ptr _ off c (by omega) fun t cs ah=>?_
  rw[key]at ah;simp only[Nat.le_add_right,if_true,Nat.add_sub_cancel_left]
  cases ai:aE σ id with
  |none=>simp[ai]at ah
  |some o=>
   cases o with
   |box bC cs'=>exact ak bC cs' ai
   |row=>simp[ai,kG]at ah
   |bL=>simp[ai,kG]at ah
 |dz id off c aq ak=>
  refine .dz _ off c (by omega) fun t cs ah=>?_
  rw[key]at ah;simp only[Nat.le_add_right,if_true,Nat.add_sub_cancel_left]
  cases ai:aE σ id with
  |none=>simp[ai]at ah
  |some o=>
   cases o with
   |box bC cs'=>exact ak bC cs' ai
   |row=>simp[ai,kG]at ah
   |bL=>simp[ai,kG]at ah
 |cV id i off c aq ak=>
  refine .cV _ i off c (by omega) fun z t n es ah=>?_
  rw[key]at ah;simp only[Nat.le_add_right,if_true,Nat.add_sub_cancel_left]
  cases ai:aE σ id with
  |none=>simp[ai]at ah
  |some o=>
   cases o with
   |box bC cs'=>simp[ai,kG]at ah
   |bL=>simp[ai,kG]at ah
   |row iv bC cI dP=>
    simp only[ai,Option.map_some,kG,Option.some.injEq,ej.row.injEq]at ah;obtain⟨rfl,rfl,rfl,rfl⟩:=ah;exact ak _ _ _ _ ai
 |aN id c aq ak=>
  refine .aN _ c (by omega) fun z t n es ah=>?_
  rw[key]at ah;simp only[Nat.le_add_right,if_true,Nat.add_sub_cancel_left]
  cases ai:aE σ id with
  |none=>simp[ai]at ah
  |some o=>
   cases o with
   |box bC cs'=>simp[ai,kG]at ah
   |bL=>simp[ai,kG]at ah
   |row iv bC cI dP=>exact ak _ _ _ _ ai
 |fn f p q c d aa ae _ _ hk hl=>
  refine .fn f _ _ c d (by rw[wY];exact aa) (by rw[wY];exact ae) (fun j x af=>?_) (fun j x af=>?_)
  ·obtain⟨y,ax,rfl⟩:=wZ M af
   exact hk j y ax
  ·obtain⟨y,ax,rfl⟩:=wZ M af
   exact hl j y ax
 |ref id c aq ak=>
  refine .ref _ c (by omega) fun bO ah=>?_
  rw[key]at ah;simp only[Nat.le_add_right,if_true,Nat.add_sub_cancel_left]
  cases ai:aE σ id with
  |none=>simp[ai]at ah
  |some o=>
   cases o with
   |box=>simp[ai,kG]at ah
   |row=>simp[ai,kG]at ah
   |bL lH=>exact ak lH ai
 |top c=>exact .top c
def m4(P:Program)(f:FuncId):Bool:=
 match P.funcs[f]? with
 |some fn=>!(fn.name== "runtime.NumGoroutine")&&fn.body.isSome
 |none=>false
theorem Ds{P:Program}{f:FuncId}(h:m4 P f=true)(args:Array Value)(w:World):(callFunc f args).run P w= .ok (.enter f args) w:=by
 unfold m4 at h
 split at h
 ·rename_i fn hf
  simp only[Bool.and_eq_true,Bool.not_eq_true']at h
  have ae:fn.body≠none:=by intro e;simp[e]at h
  have au:fn.name≠ "runtime.NumGoroutine" :=by simpa using h.1
  simp[callFunc,hf,ae,au]
 ·cases h
section
variable {P:Program} {G:a7} {s:aO} {Q:Exit→aO→Prop}
theorem mf.call{o:Oper}{x:Operand}{xs:Array Operand}{ts:Array TypeId}(an:o.op= .call {callee:=.value x,args:=xs,argTypes:=ts}){f:FuncId}(hx:aI G s x= .fn (.func f) [] [])
 (gB:m4 P f=true){args:List aD}(h2:xs.toList.map (fun y=>hN s.heap (aI G s y))=args)(o4:e3 args=true){R:aD→Heap→Prop}(hc:dF P G f args [] 0 R){K:Nat}{r:aD}{bU:Heap}
 (fP: ∀eP fF,R eP fF→eP=r∧fF=bU)(Kd:gA K r=true)(Dt:lb K bU=true)(ad:s.base≤s.next):
 mf P G o s ({s with heap:=ld s.next bU++s.heap,next:=s.next+K}.put o.dst (qn s.next r)):=by
 intro E a w ⟨β,ro,h⟩ zdq zdr Ke
 have lK:=h.eval x
 rw[hx]at lK
 generalize he:a.eval x=Kf at lK
 cases lK with
 |fn _ _ _ c d aa ae _ _=>
  have hC:c= #[]:=by simpa using aa
  have ow:d= #[]:=by simpa using ae
  subst hC ow;unfold Oper.wp;simp only[execOp,an,resolve,he,Deferred.ofValue,Sem.run_bind,Sem.run_pure,Result.andThen_ok,invoke,Array.empty_append,Array.append_empty];rw[Ds gB]
  have hlen:xs.toList.length=args.length:=by have:=congrArg List.length h2;simpa using this
  have ho:=hc w β ro (xs.map a.eval) (by simpa using hlen) (fun i y ax=>by
   have hi:(xs.toList.map (fun y=>hN s.heap (aI G s y)))[i]? =some y:=by rw[h2];exact ax
   rw[List.getElem?_map]at hi
   cases Kg:xs.toList[i]? with
   |none=>simp[Kg]at hi
   |some z=>
    simp[Kg]at hi
    have aw:=zdp h.heap (h.eval z)
    rw[hi]at aw
    have zds:xs[i]? =some z:=by simpa using Kg
    have dS:(xs.map a.eval).getD i undef=a.eval z:=by simp[zds]
    rw[dS]
    exact nV aw (m3 o4 ax)) ⟨by simp[aE],by simp[aE],fun b _ ⟨_,_,ah,_⟩=>by simp[aE]at ah,h.heap.lt⟩ h.ib (by simp[aE])
  refine Calls.mono ho fun e w' aH=>?_
  obtain⟨v,eP,fF,dL,ro',cI,rfl,zdt,dA,hO,cD⟩:=aH;obtain⟨rfl,rfl⟩:=fP eP fF zdt
  have lf: ∀b,¬Own ([]:Heap) β b:=fun b ⟨_,_,ah,_⟩=>by simp[aE]at ah
  have lL: ∀b,b<w.heap.size→w'.heap[b]? =w.heap[b]? :=fun b ad=>cD.frame b ad (lf b)
  have rF:=dA.lower Kd
  have fc:=h.heap
  have Kh:=fun id o ah=>h.trans.new id o ah
  have cb: ∀b,ro b→w'.heap[b]? =w.heap[b]? :=fun b ad=>lL b (h.heap.lt b ad)
  have nS: ∀k p b,aE s.heap k=some p→p.live=true→b2 (β k)=some b→b<w.heap.size:=fun k p b aj ak bf=>(h.heap.c5 k p aj).hJ ak bf
  have Du: ∀k p b,aE fF k=some p→p.live=true→b2 (dL k)=some b→w.heap.size≤b:=by
   intro k p b aj ak bf
   rcases cD.hj b ⟨k,p,aj,ak,bf⟩with hc|hc
   ·exact absurd hc (lf b)
   ·exact hc

  have look: ∀id,aE (ld s.next fF++s.heap) id=if s.next≤id then(aE fF (id-s.next)).map (kG s.next)else aE s.heap id:=by
   intro id;rw[Rx,zR]
   by_cases hi:s.next≤id
   ·simp only[hi,if_true]
    cases ai:aE fF (id-s.next)with
    |some p=>simp
    |none=>
     simp
     cases aG:aE s.heap id with
     |none=>rfl
     |some p=>have:=Kh _ _ aG;omega
   ·simp[hi]
  have up: ∀x c,br w ro s.heap β s.next x c→br w' (fun b=>ro b∨ro' b) (ld s.next fF++s.heap) (fun k=>if s.next≤k then dL (k-s.next)else β k) (s.next+K) x c:=by
   intro x c hx
   induction hx with
   |av x c hx=>exact .av x c (hx.keep cb fun _ h=>.inl h)
   |agg cs c ai _ aX=>exact .agg cs c ai aX
   |tuple cs c ai _ aX=>exact .tuple cs c ai aX
   |ptr k off c aq ak=>
    have aj: ¬s.next≤k:=by omega
    exact .ptr k off c (by omega) fun t cs bm=>by rw[look,if_neg aj]at bm;simp only[aj,if_false];exact ak t cs bm
   |dz k off c aq ak=>
    have aj: ¬s.next≤k:=by omega
    exact .dz k off c (by omega) fun t cs bm=>by rw[look,if_neg aj]at bm;simp only[aj,if_false];exact ak t cs bm
   |cV k i off c aq ak=>
    have aj: ¬s.next≤k:=by omega
    exact .cV k i off c (by omega) fun z t n es bm=>by rw[look,if_neg aj]at bm;simp only[aj,if_false];exact ak z t n es bm
   |aN k c aq ak=>
    have aj: ¬s.next≤k:=by omega
    exact .aN k c (by omega) fun z t n es bm=>by rw[look,if_neg aj]at bm;simp only[aj,if_false];exact ak z t n es bm
   |fn f p q c d aa ae _ _ hk hl=>exact .fn f p q c d aa ae hk hl
   |ref k c aq ak=>
    have aj: ¬s.next≤k:=by omega
    exact .ref k c (by omega) fun bO bm=>by rw[look,if_neg aj]at bm;simp only[aj,if_false];exact ak bO bm
   |top c=>exact .top c
  have Ry: ∀b,ro' b→ro b∨w.heap.size≤b:=fun b ad=>by
   rcases cD.jk b ad with h|h|h
   ·exact .inl h
   ·exact absurd h (lf b)
   ·exact .inr h
  refine Ke _ _ ⟨fun k=>if s.next≤k then dL (k-s.next)else β k,fun b=>ro b∨ro' b,c2.put (s:={s with heap:=ld s.next fF++s.heap,next:=s.next+K}) ⟨h.defers,h.size,fun i x hx=>up _ _ (h.slot i x hx),⟨fun id p ah=>?_,?_,?_,?_⟩,?_,?_,h.base⟩ o.dst _ _ ?_⟩ lL
  ·simp only[look]at ah
   by_cases hi:s.next≤id
   ·simp only[hi,if_true]at ah
    cases ai:aE fF (id-s.next)with
    |none=>simp[ai]at ah
    |some q=>
     simp[ai]at ah;subst ah;obtain⟨_,zS⟩:=rE Dt ai
     have gJ:=hO.c5 _ q ai
     cases gJ with
     |box t cs b arr aB bd cj eo=>
      refine .box t _ b arr (by simp[hi,aB]) bd (by rw[wY];exact cj) fun j x af=>?_
      obtain⟨y,ax,rfl⟩:=wZ s.next af;exact br.shift ((eo j y ax).lower (rD (zS t cs rfl) ax)) (fun _ h=>.inr h) Kh
     |row t n es xs aB bd cj=>exact .row t n es xs (by simp only[hi,if_true];exact aB) bd fun j x af=>(cj j x af).keep (fun _ _=>rfl) fun _ h=>.inr h
     |ga t n es aB=>exact .ga t n es (by simp only[hi,if_true];exact aB.keep (fun _ _=>rfl) fun _ h=>.inr h)
     |bL bO b o aB bd cj=>exact .bL bO b o (by simp only[hi,if_true];exact aB) bd (by simp only[hi,if_true];exact bO.mono _ _ _ _ (fun x c h=>h.keep (fun _ _=>rfl) fun _ h=>.inr h) cj)
   ·simp only[hi,if_false]at ah
    have gJ:=h.heap.c5 id p ah
    cases gJ with
    |box t cs b arr aB bd cj eo=>
     have hL:=nS id _ b ah rfl (by rw[aB];rfl)
     exact .box t cs b arr (by simp only[hi,if_false];exact aB) ((lL b hL).trans bd) cj fun j x af=>up _ _ (eo j x af)
    |row t n es xs aB bd cj=>
     exact .row t n es xs (by simp only[hi,if_false];exact aB.keep (fun b ad=>lL b (aB.hJ ad).1) cD.size) bd fun j x af=>(cj j x af).keep cb fun _ h=>.inl h
    |ga t n es aB=>exact .ga t n es (by simp only[hi,if_false];exact aB.keep cb fun _ h=>.inl h)
    |bL bO b o aB bd cj=>exact .bL bO b o (by simp only[hi,if_false];exact aB) ((lL b (Array.getElem?_eq_some_iff.1 bd).1).trans bd) (by simp only[hi,if_false];exact bO.mono _ _ _ _ (fun x c h=>h.keep cb fun _ h=>.inl h) cj)
  ·intro id gk p fW b ah dV ak gI bf et
   rw[look]at ah dV
   by_cases hi:s.next≤id
   ·simp only[hi,if_true]at ah bf
    cases ai:aE fF (id-s.next)with
    |none=>simp[ai]at ah
    |some q=>
     have ru:q.live=true:=by simp[ai]at ah;subst ah;cases q<;>first|rfl|exact ak
     have hW:=Du _ q b ai ru bf
     by_cases hp:s.next≤gk
     ·simp only[hp,if_true]at dV et
      cases eW:aE fF (gk-s.next)with
      |none=>simp[eW]at dV
      |some q'=>
       have zH:q'.live=true:=by simp[eW]at dV;subst dV;cases q'<;>first|rfl|exact gI
       have:=hO.inj _ _ q q' b ai eW ru zH bf et
       omega
     ·simp only[hp,if_false]at dV et
      have:=nS gk fW b dV gI et
      omega
   ·simp only[hi,if_false]at ah bf
    have Ki:=nS id p b ah ak bf
    by_cases hp:s.next≤gk
    ·simp only[hp,if_true]at dV et
     cases eW:aE fF (gk-s.next)with
     |none=>simp[eW]at dV
     |some q'=>
      have zH:q'.live=true:=by simp[eW]at dV;subst dV;cases q'<;>first|rfl|exact gI
      have hW:=Du _ q' b eW zH et
      omega
    ·simp only[hp,if_false]at dV et
     exact h.heap.inj id gk p fW b ah dV ak gI bf et
  ·rintro b ad ⟨id,p,ah,ak,bf⟩
   rw[look]at ah
   by_cases hi:s.next≤id
   ·simp only[hi,if_true]at ah bf
    cases ai:aE fF (id-s.next)with
    |none=>simp[ai]at ah
    |some q=>
     have ru:q.live=true:=by simp[ai]at ah;subst ah;cases q<;>first|rfl|exact ak
     have hW:=Du _ q b ai ru bf
     rcases ad with ad|ad
     ·have:=h.heap.lt b ad;omega
     ·exact hO.fg b ad ⟨_,q,ai,ru,bf⟩
   ·simp only[hi,if_false]at ah bf
    have Ki:=nS id p b ah ak bf
    rcases ad with ad|ad
    ·exact h.heap.fg b ad ⟨id,p,ah,ak,bf⟩
    ·rcases Ry b ad with hc|hc
     ·exact h.heap.fg b hc ⟨id,p,ah,ak,bf⟩
     ·omega
  ·intro b ad
   rcases ad with ad|ad
   ·exact Nat.lt_of_lt_of_le (h.heap.lt b ad) cD.size
   ·exact hO.lt b ad
  ·exact h.ib.keep cb fun _ h=>.inl h
  ·have t:=h.trans
   refine⟨cD.os.trans t.os,cD.tape.trans t.tape,cD.output.trans t.output,Nat.le_trans t.size cD.size,fun b hL gd=>(lL b (Nat.lt_of_lt_of_le hL t.size)).trans (t.frame b hL gd),?_,fun b ad=>.inl (t.j1 b ad),?_,?_,?_,?_⟩
   ·intro b ad
    rcases ad with ad|ad
    ·exact t.jk b ad
    ·rcases Ry b ad with hc|hc
     ·exact t.jk b hc
     ·exact .inr (.inr (Nat.le_trans t.size hc))
   ·rintro b ⟨id,p,ah,ak,bf⟩
    rw[look]at ah
    by_cases hi:s.next≤id
    ·simp only[hi,if_true]at ah bf
     cases ai:aE fF (id-s.next)with
     |none=>simp[ai]at ah
     |some q=>
      have ru:q.live=true:=by simp[ai]at ah;subst ah;cases q<;>first|rfl|exact ak
      exact .inr (Nat.le_trans t.size (Du _ q b ai ru bf))
    ·simp only[hi,if_false]at ah bf
     exact t.hj b ⟨id,p,ah,ak,bf⟩
   ·intro id bc p ah
    have aa:=h.base
    have hi: ¬s.next≤id:=by omega
    rw[look,if_neg hi]at ah;simp only[hi,if_false];exact t.dK id bc p ah
   ·intro id p ah
    simp only[look]at ah
    by_cases hi:s.next≤id
    ·simp only[hi,if_true]at ah
     cases ai:aE fF (id-s.next)with
     |none=>simp[ai]at ah
     |some q=>
      have:=(rE Dt ai).1
      show id<s.next+K;omega
    ·show id<s.next+K
     omega
   ·have:=h.base
    show E.n≤s.next+K;omega
  ·exact br.shift rF (fun _ h=>.inr h) Kh
theorem dQ.call{o:Oper}{x:Operand}{xs:Array Operand}{ts:Array TypeId}(an:o.op= .call {callee:=.value x,args:=xs,argTypes:=ts}){f:FuncId}(hx:aI G s x= .fn (.func f) [] [])
 (gB:m4 P f=true){args:List aD}(h2:xs.toList.map (fun y=>hN s.heap (aI G s y))=args)(o4:e3 args=true){R:aD→Heap→Prop}(hc:dF P G f args [] 0 R){K:Nat}{r:aD}{bU:Heap}
 (fP: ∀eP fF,R eP fF→eP=r∧fF=bU)(Kd:gA K r=true)(Dt:lb K bU=true)(ad:s.base≤s.next):
 dQ P G o s ({s with heap:=ld s.next bU++s.heap,next:=s.next+K}.put o.dst (qn s.next r)):=(mf.call an hx gB h2 o4 hc fP Kd Dt ad).op
end
end Go.aK
namespace Go.aK
open Go
section
variable {P:Program} {G:a7} {o:Oper} {s:aO}
theorem cQ.Rz{w:World}{ro:Nat→Prop}{n:Nat}{es:List (List a1)}{c:Value}(h:cQ w ro (.aN n es) c): ∃b cap,c= .slice b es.length cap:=by
 cases h with
 |aN _ _ b cap=>exact⟨b,cap,rfl⟩
def lg(σ:Heap):aD→Option Nat
 | .av (.aN _ es)=>some es.length
 | .av (.v (.slice none 0 0))=>some 0
 | .aN id=>match aE σ id with
  |some (.row _ _ _ es)=>some es.length
  |_=>none
 |_=>none
theorem zdu{w:World}{ro:Nat→Prop}{σ:Heap}{β:Nat→Value}{N:Nat}(ba:hh w ro σ β N){x:aD}{c:Value}(h:br w ro σ β N x c){m:Nat}(hm:lg σ x=some m): ∃b cap,c= .slice b m cap:=by
 cases h with
 |av x c hx=>
  cases hx with
  |v _ aa=>
   cases c with
   |slice a l h0=>
    cases a with
    |none=>
     cases l with
     |zero=>
      cases h0 with
      |zero=>simp[lg]at hm;subst hm;exact⟨_,_,rfl⟩
      |succ=>simp[lg]at hm
     |succ=>simp[lg]at hm
    |some=>simp[lg]at hm
   |_=>simp[lg]at hm
  |ptr=>simp[lg]at hm
  |mp=>simp[lg]at hm
  |er=>simp[lg]at hm
  |li=>simp[lg]at hm
  |aN n es b cap c aa ae au aP bE=>
   simp only[lg,Option.some.injEq]at hm;subst hm;exact⟨b,cap,rfl⟩
 |aN id c aq ak=>
  simp only[lg]at hm
  split at hm
  ·rename_i z t n es ah
   simp only[Option.some.injEq]at hm;subst hm;rw[ak z t n es ah]
   have:=ba.c5 id _ ah
   cases this with
   |row _ _ _ xs aa=>
    rcases aa.2 with⟨⟨_,aw,_⟩,aR⟩|⟨g,cap,cur,aw,_⟩
    ·rw[aw,aR];exact⟨_,_,rfl⟩
    ·rw[aw];exact⟨_,_,rfl⟩
   |ga _ _ _ aa=>exact aa.Rz
  ·cases hm
 |_=>simp[lg]at hm
def isSlice(P:Program)(t:TypeId):Bool:=
 match P.underlying t with
 |some (.slice _)=>true
 |_=>false
theorem Kj(x:Operand)(t:TypeId)(an:o.op= .call {callee:=.builtin .len,args:=#[x],argTypes:=#[t]})(aG:isSlice P t=true){m:Nat}(hm:lg s.heap (aI G s x)=some m):
 cP P G o s (.av (.v (.int .i64 (m:Int)))):=
 fun _ a w β ro ag=>by
  obtain⟨b,cap,hc⟩:=zdu ag.heap (ag.eval x) hm;unfold isSlice at aG
  split at aG
  ·rename_i e hu
   refine⟨.int .i64 m,?_,.fD rfl⟩
   simp[execOp,an,resolve,invoke,builtin,hc,Builtin.len_,run_underlying hu,goInt]
  ·cases aG
theorem Kk(x:Operand)(t:TypeId)(an:o.op= .call {callee:=.builtin .len,args:=#[x],argTypes:=#[t]})(aG:P.underlying t=some .string){b:ByteArray}(hx:aI G s x= .av (.v (.string b))):
 cP P G o s (.av (.v (.int .i64 (b.size:Int)))):=
 fun _ a w β ro ag=>by
  refine⟨.int .i64 b.size,?_,.fD rfl⟩
  simp[execOp,an,resolve,invoke,builtin,ag.ee hx,Builtin.len_,run_underlying aG,goInt]
def Dv(P:Program)(t:TypeId):Option Nat:=
 match P.underlying t with
 |some (.array n _)=>some n
 |some (.pointer a)=>match P.underlying a with
  |some (.array n _)=>some n
  |_=>none
 |_=>none
theorem RA(x:Operand)(t:TypeId)(an:o.op= .call {callee:=.builtin .len,args:=#[x],argTypes:=#[t]}){n:Nat}(aG:Dv P t=some n):
 cP P G o s (.av (.v (.int .i64 (n:Int)))):=
 fun _ a w β ro ag=>by
  refine⟨.int .i64 n,?_,.fD rfl⟩
  unfold Dv at aG
  split at aG
  ·rename_i m e hu
   simp only[Option.some.injEq]at aG;subst aG;simp[execOp,an,resolve,invoke,builtin,Builtin.len_,run_underlying hu,goInt]
  ·rename_i p hu
   split at aG
   ·rename_i m e zdv
    simp only[Option.some.injEq]at aG;subst aG;simp[execOp,an,resolve,invoke,builtin,Builtin.len_,run_underlying hu,run_underlying zdv,goInt]
   ·cases aG
  ·cases aG
def j6(P:Program)(t:TypeId):Option Nat:=
 match P.underlying t with
 |some (.slice e)=>(P.info? e).map (·.size)
 |_=>none
theorem zT{t n:Nat}(h:j6 P t=some n): ∃e,P.underlying t=some (.slice e)∧∀w,(sizeOf e).run P w= .ok n w:=by
 unfold j6 at h
 split at h
 ·rename_i e hu
  cases hi:P.info? e with
  |none=>simp[hi]at h
  |some i=>
   simp[hi]at h;subst h;exact⟨e,hu,fun w=>by simp[sizeOf,typeInfo,hi]⟩
 ·cases h
def mn(σ:Heap)(n j:Nat):aD→Option aD
 | .av (.aN m es)=>if m=n then match es[j]? with
  |some e=>some (.av (.ptr e))
  |none=>none
  else none
 | .aN id=>match aE σ id with
  |some (.row false _ m es)=>if m=n∧j<es.length then some (.cV id j 0)else none
  |some (.row true _ m es)=>if m=n then match es[j]? with
   |some e=>some (.av (.ptr e))
   |none=>none
   else none
  |_=>none
 |_=>none
theorem cQ.elem{w:World}{ro:Nat→Prop}{n:Nat}{es:List (List a1)}{c:Value}(h:cQ w ro (.aN n es) c){j:Nat}{e:List a1}(af:es[j]? =some e):
 ∃a cap,c= .slice (some a) es.length cap∧cQ w ro (.ptr e) (.pointer (some (a.add (j*n)))):=by
 cases h with
 |aN _ _ b cap f aa ae au aP bE=>
  have cL:j<es.length:=(List.getElem?_eq_some_iff.1 af).1
  obtain⟨a,rfl,hc⟩:=aP (by omega)
  have nR:e.length=n:=au e (List.mem_of_getElem? af)
  have k0:j*n+n≤es.length*n:=by rw[←Nat.succ_mul];exact Nat.mul_le_mul_right n cL
  refine⟨a,cap,rfl,.ptr _ _ (fun k=>f (j*n+k)) (fun k x aj=>?_) (fun k x aj=>?_)⟩
  ·have o5:k<n:=by have:=(List.getElem?_eq_some_iff.1 aj).1;omega
   rw[qh,zB];exact hc _ (by omega)
  ·have o5:k<n:=by have:=(List.getElem?_eq_some_iff.1 aj).1;omega
   exact bE _ _ (by rw[rq au af k o5];exact aj)
theorem RB{w:World}{ro:Nat→Prop}{σ:Heap}{β:Nat→Value}{N:Nat}(ba:hh w ro σ β N){x:aD}{c:Value}(h:br w ro σ β N x c){n j:Nat}{p:aD}(ak:mn σ n j x=some p):
 ∃a len cap,c= .slice (some a) len cap∧j<len∧br w ro σ β N p (.pointer (some (a.add (j*n)))):=by
 cases h with
 |av x c hx=>
  cases x with
  |v=>simp[mn]at ak
  |ptr=>simp[mn]at ak
  |mp=>simp[mn]at ak
  |er=>simp[mn]at ak
  |li=>simp[mn]at ak
  |aN m es=>
   simp only[mn]at ak
   split at ak
   ·rename_i hm
    subst hm
    split at ak
    ·rename_i e he
     simp only[Option.some.injEq]at ak;subst ak;obtain⟨a,cap,hc,ag⟩:=hx.elem he;exact⟨a,es.length,cap,hc,(List.getElem?_eq_some_iff.1 he).1,.av _ _ ag⟩
    ·cases ak
   ·cases ak
 |aN id c aq aH=>
  simp only[mn]at ak
  split at ak
  ·rename_i t m es ah
   split at ak
   ·rename_i hm
    obtain⟨rfl,af⟩:=hm;simp only[Option.some.injEq]at ak;subst ak
    have dg:=ba.c5 id _ ah
    cases dg with
    |row _ _ _ xs aa=>
     rcases aa.2 with⟨_,aR⟩|⟨g,cap,cur,aw,_⟩
     ·omega
     ·rw[aH _ _ _ _ ah,aw]
      refine⟨_,_,_,rfl,af,.cV _ _ _ _ aq fun iv bC cI dP dV=>?_⟩
      rw[ah]at dV;simp only[Option.some.injEq,ej.row.injEq]at dV;obtain⟨_,_,rfl,_⟩:=dV;exact⟨g,_,_,aw,by rw[addLit];simp⟩
   ·cases ak
  ·rename_i t m es ah
   split at ak
   ·rename_i hm
    subst hm
    split at ak
    ·rename_i e he
     simp only[Option.some.injEq]at ak;subst ak
     have dg:=ba.c5 id _ ah
     cases dg with
     |ga _ _ _ aa=>
      obtain⟨a,cap,hc,ag⟩:=aa.elem he;exact⟨a,es.length,cap,by rw[aH _ _ _ _ ah,hc],(List.getElem?_eq_some_iff.1 he).1,.av _ _ ag⟩
    ·cases ak
   ·cases ak
  ·cases ak
 |_=>simp[mn]at ak
theorem RD(t:TypeId)(x i:Operand)(an:o.op= .indexAddr t x i){n:Nat}(aG:j6 P t=some n){k:IntKind}{j:Nat}(hi:aI G s i= .av (.v (.int k (j:Int)))){p:aD}(ak:mn s.heap n j (aI G s x)=some p):
 cP P G o s p:=
 fun _ a w β ro ag=>by
  obtain⟨cW,len,cap,hc,af,dA⟩:=RB ag.heap (ag.eval x) ak;obtain⟨e,hu,bM⟩:=zT aG;refine⟨_,?_,dA⟩
  have oN:(0:Int)≤j∧(j:Int)<len:=⟨by omega,by omega⟩
  simp[execOp,an,hc,ag.ee hi,Instr.indexAt,asIntOf,run_underlying hu,af,bM]
def uU(P:Program)(t:TypeId):Option (Nat × Nat):=
 match P.underlying t with
 |some (.array n e)=>(P.info? e).map fun i=>(n,i.size)
 |_=>none
theorem Kl(t:TypeId)(x i:Operand)(an:o.op= .indexAddr t x i){len n:Nat}(aG:uU P t=some (len,n)){k:IntKind}{j:Nat}(hi:aI G s i= .av (.v (.int k (j:Int))))(af:j<len)
 {cs:List aD}(dI:fo s.heap (aI G s x)=some cs){p:aD}(ak:iO (j*n) (aI G s x)=some p):
 cP P G o s p:=
 fun _ a w β ro ag=>by
  obtain⟨cW,hc,dA⟩:=QW ak dI (ag.eval x);unfold uU at aG
  split at aG
  ·rename_i m e hu
   cases uV:P.info? e with
   |none=>simp[uV]at aG
   |some zdw=>
    simp[uV]at aG;obtain⟨rfl,rfl⟩:=aG;refine⟨_,?_,dA⟩
    simp[execOp,an,hc,ag.ee hi,Instr.indexAt,asIntOf,run_underlying hu,Instr.sureAddr,af,sizeOf,typeInfo,uV]
  ·cases aG
theorem RE(t:TypeId)(x i:Operand)(an:o.op= .index t x i)(aG:P.underlying t=some .string){k:IntKind}{j:Nat}(hi:aI G s i= .av (.v (.int k (j:Int)))){b:ByteArray}(hx:aI G s x= .av (.v (.string b)))
 {u:UInt8}(hu:b.data.toList[j]? =some u):cP P G o s (.av (.v (.int .u8 (u.toNat:Int)))):=
 fun _ a w β ro ag=>by
  have af:b[j]? =some u:=by
   have aa:j<b.size:=by have:=(List.getElem?_eq_some_iff.1 hu).1;simpa using this
   rw[ByteArray.getElem?_lt' b j aa]
   rw[List.getElem?_eq_some_iff]at hu
   obtain⟨_,ae⟩:=hu;simp only[Option.some.injEq];rw[←ae];rfl
  exact⟨_,by simp[execOp,an,ag.ee hx,ag.ee hi,Instr.index,asIntOf,run_underlying aG,af],.fD rfl⟩
def w0(P:Program)(t:TypeId)(f:Nat):Option (Nat × Option Nat):=
 match P.underlying t with
 |some (.struct fs)=>match fs[f]? with
  |some fd=>if scalar P fd.type then some (fd.offset,none)else match mh P fd.type with
   |some n=>some (fd.offset,some n)
   |none=>none
  |none=>none
 |_=>none
theorem RF(t:TypeId)(x:Operand)(f:Nat)(an:o.op= .field t x f){off:Nat}(aG:w0 P t f=some (off,none)){cs:List aD}(hx:aI G s x= .agg cs){v:aD}(aw:cs[off]? =some v):
 cP P G o s v:=
 fun _ a w β ro ag=>by
  have h:=ag.eval x
  rw[hx]at h;generalize he:a.eval x=c at h
  cases h with
  |agg _ c ai hc=>
   have bG:off<c.size:=by have:=(List.getElem?_eq_some_iff.1 aw).1;omega
   unfold w0 at aG
   split at aG
   ·rename_i fs hu
    split at aG
    ·rename_i fd hf
     split at aG
     ·rename_i hsc
      simp only[Option.some.injEq,Prod.mk.injEq,and_true]at aG;subst aG;refine⟨c[fd.offset],?_,by simpa[bG]using hc _ v aw⟩
      simp[execOp,an,he,Instr.field,run_underlying hu,hf,asAgg,part,zD hsc,bG]
     ·split at aG
      ·simp at aG
      ·cases aG
    ·cases aG
   ·cases aG
theorem RG(t:TypeId)(x:Operand)(f:Nat)(an:o.op= .field t x f){off n:Nat}(aG:w0 P t f=some (off,some n)){cs:List aD}(hx:aI G s x= .agg cs)(hn:off+n≤cs.length):
 cP P G o s (.agg ((cs.drop off).take n)):=
 fun _ a w β ro ag=>by
  have h:=ag.eval x
  rw[hx]at h;generalize he:a.eval x=c at h
  cases h with
  |agg _ c ai hc=>
   unfold w0 at aG
   split at aG
   ·rename_i fs hu
    split at aG
    ·rename_i fd hf
     split at aG
     ·simp at aG
     ·split at aG
      ·rename_i m bQ
       simp only[Option.some.injEq,Prod.mk.injEq]at aG;obtain⟨rfl,rfl⟩:=aG;obtain⟨g1,g2⟩:=Di bQ w;refine⟨.agg (c.extract fd.offset (fd.offset+m)),?_,.agg _ _ (by simp;omega) fun j y af=>?_⟩
       ·simp[execOp,an,he,Instr.field,run_underlying hu,hf,asAgg,part,g1,g2]
       ·rw[List.getElem?_take]at af
        split at af
        ·rename_i RH
         rw[List.getElem?_drop]at af
         have:=hc _ y af
         have aa:fd.offset+j<c.size:=by omega
         have ae:j<(c.extract fd.offset (fd.offset+m)).size:=by simp;omega
         simp only[Array.getD,ae,dif_pos];simpa[aa]using this
        ·cases af
      ·cases aG
    ·cases aG
   ·cases aG
def places(P:Program)(t:TypeId):Option (Nat→Option (Nat × Nat)):=
 match P.underlying t with
 |some (.struct fs)=>if fs.toList.all fun f=>(P.info? f.type).isSome then some fun i=>(fs.toList.map fun f=>(f.offset,((P.info? f.type).map (·.size)).getD 0))[i]? else none
 |some (.array _ e)=>match P.info? e with
  |some inf=>some fun i=>some (i*inf.size,inf.size)
  |none=>none
 |_=>none
def j7(place:Nat→Option (Nat × Nat)):List aD→List (Nat × aD)→Option (List aD)
 |cs,[]=>some cs
 |cs,(i,v)::rest=>match place i with
  |some (off,size)=>if(cS v).length=size∧off+size≤cs.length then j7 place (ek cs off (cS v)) rest else none
  |none=>none
theorem RI(off:Nat): ∀(vs:List Value) (k:Nat) (cs:Array Value),off+k+vs.length≤cs.size→
 ((vs.zipIdx k).foldl (fun(cs:Array Value) (x:Value × Nat)=>cs.setIfInBounds (off+x.2) x.1) cs).toList=ek cs.toList (off+k) vs
 |[],k,cs,h=>by simp[ek]
 |v::vs,k,cs,h=>by
  simp only[List.zipIdx_cons,List.foldl_cons];rw[RI off vs (k+1) (cs.setIfInBounds (off+k) v) (by simp at h⊢;omega)]
  have e:=list_seg_step cs.toList (off+k) v vs (by simp at h⊢;omega)
  simp only[ek,Array.toList_setIfInBounds,←Nat.add_assoc]at*;simp only[List.append_assoc]at e;rw[e];simp[Nat.add_assoc]
theorem Dw{place place':Nat→Option (Nat × Nat)}(rG: ∀i p,place i=some p→place' i=some p){w:World}{ro:Nat→Prop}{σ:Heap}{β:Nat→Value}{N:Nat}(ba:hh w ro σ β N):
    ∀{ps:List (Nat × aD)} {qs:List (Nat × Value)} {cs ds:List aD} {xs:Array Value},j7 place cs ps=some ds→ps.map (·.1)=qs.map (·.1)→(∀(j:Nat) (p:Nat × aD) (q:Nat × Value),ps[j]? =some p→qs[j]? =some q→br w ro σ β N p.2 q.2∧(cS p.2).all (eD σ)=true)→
    xs.size=cs.length→(∀j x,cs[j]? =some x→br w ro σ β N x (xs.getD j undef))→
    ∃ys,Instr.fill place' xs qs=some ys∧ys.size=ds.length∧∀j x,ds[j]? =some x→br w ro σ β N x (ys.getD j undef)
  |[],qs,cs,ds,xs,hf,aj,_,ai,hx=>by
    simp[j7]at hf;subst hf
    have:qs=[]:=by cases qs with
      |nil=>rfl
      |cons=>simp at aj
    subst this;exact⟨xs,by simp[Instr.fill],ai,hx⟩
  |(i,v)::ps,[],cs,ds,xs,hf,aj,_,ai,hx=>by simp at aj
  |(i,v)::ps,(zU,u)::qs,cs,ds,xs,hf,aj,ag,ai,hx=>by
    simp only[List.map_cons,List.cons.injEq]at aj;obtain⟨rfl,aj⟩:=aj;simp only[j7]at hf
    split at hf
    · rename_i off size ak
      split at hf
      · rename_i hc
        obtain⟨Dx,Km⟩:=hc
        have dA:br w ro σ β N v u:=(ag 0 (i,v) (i,u) rfl rfl).1
        have eb:(cS v).all (eD σ)=true:=(ag 0 (i,v) (i,u) rfl rfl).2
        obtain⟨g1,g2,_⟩:=dA.cS eb ba
        have RJ:=RI off u.cells.toList 0 xs (by simp;omega)
        simp only[Nat.add_zero]at RJ
        have aX:=Dw rG ba (ps:=ps) (qs:=qs) (cs:=ek cs off (cS v)) (ds:=ds) (xs:=(ek xs.toList off u.cells.toList).toArray) hf aj (fun j p q aa ae=>ag (j+1) p q aa ae)
          (by rw[List.size_toArray,qi _ _ _ (by simp;omega),qi _ _ _ (by omega)];simpa using ai) (fun j x af=>by
            have:=J2 (br w ro σ β N) undef (cs:=cs) (vs:=cS v) (xs:=xs.toList) (ys:=u.cells.toList) (off:=off) (by simp;omega) (by simp;omega) (by omega)
              (fun j x af=>by have:=hx j x af;simpa[Array.getD_eq_getD_getElem?,List.getD]using this) (fun j x af=>by have:=g2 j x af;simpa[Array.getD_eq_getD_getElem?,List.getD]using this) j x af
            simpa[Array.getD_eq_getD_getElem?,List.getD]using this)
        obtain⟨ys,aa,ae,au⟩:=aX;refine⟨ys,?_,ae,au⟩
        rw[Instr.fill.eq_2,rG _ _ ak];simp only;rw[if_neg (by simp;omega)]
        have zdx:Array.foldl (fun cs x=>match x with
            |(c,j)=>cs.setIfInBounds (off+j) c) xs u.cells.zipIdx=(ek xs.toList off u.cells.toList).toArray:=by
          apply Array.ext';rw[←RJ,←Array.foldl_toList];simp
        rw[zdx];exact aa
      · cases hf
    · cases hf
theorem run_places(w:World): ∀l:List Field,(l.all fun f=>(P.info? f.type).isSome)=true→(l.mapM (fun f=>do
    let n ←sizeOf f.type
    pure (f.offset,n):Field→Sem (Nat × Nat))).run P w= .ok (l.map fun f=>(f.offset,((P.info? f.type).map (·.size)).getD 0)) w
  |[],_=>by simp
  |f::r,h=>by
    simp only[List.all_cons,Bool.and_eq_true]at h
    have aX:=run_places w r h.2
    cases hi:P.info? f.type with
    |none=>simp[hi]at h
    |some inf=>
      have aa:(sizeOf f.type).run P w= .ok inf.size w:=by simp[sizeOf,typeInfo,hi]
      simp only[List.mapM_cons,Sem.run_bind,aa,Result.andThen_ok,Sem.run_pure,aX];simp[hi]
theorem run_build{t:TypeId}{pl:Nat→Option (Nat × Nat)}(ak:places P t=some pl){zs:List Value}(aR:zeroCells P t=some zs){parts:Array (Nat × Value)}{ys:Array Value}(hf:Instr.fill pl zs.toArray parts.toList=some ys)(w:World):
    (Instr.build t parts).run P w= .ok (.agg ys) w:=by
  obtain⟨z,j5,o0,_⟩:=zJ aR w;unfold places at ak
  split at ak
  · rename_i fs hu
    split at ak
    · rename_i eb
      simp only[Option.some.injEq]at ak;subst ak
      have aa:=run_places w fs.toList eb
      have ae:(fs.mapM (fun f=>do
          let n ←sizeOf f.type
          pure (f.offset,n):Field→Sem (Nat × Nat))).run P w= .ok (fs.toList.map fun f=>(f.offset,((P.info? f.type).map (·.size)).getD 0)).toArray w:=by
        rw[Array.mapM_eq_mapM_toList];simp only[Sem.run_map,aa];rfl
      simp only[Instr.build,Sem.run_bind,j5,Result.andThen_ok,run_underlying hu,ae,o0]
      have au:(fun(x:Nat)=>(fs.toList.map fun f=>(f.offset,((P.info? f.type).map (·.size)).getD 0)).toArray[x]?)=(fun(i:Nat)=>(fs.toList.map fun f=>(f.offset,((P.info? f.type).map (·.size)).getD 0))[i]?):=by
        funext i;simp
      rw[au,hf];rfl
    · cases ak
  · rename_i n e hu
    split at ak
    · rename_i inf hi
      simp only[Option.some.injEq]at ak;subst ak
      have aa:(sizeOf e).run P w= .ok inf.size w:=by simp[sizeOf,typeInfo,hi]
      simp only[Instr.build,Sem.run_bind,j5,Result.andThen_ok,run_underlying hu,aa,o0,hf];rfl
    · cases ak
  · cases ak
theorem Kn{w:World}{ro:Nat→Prop}{σ:Heap}{β:Nat→Value}{N:Nat}{zs:List Value}(eb:zs.all Value.oneCell'=true): ∀(j:Nat) (x:aD),(zs.map fun z=>aD.av (.v z))[j]? =some x→br w ro σ β N x (zs.toArray.getD j undef):=by
 intro j x af
 rw[List.getElem?_map]at af
 cases rv:zs[j]? with
 |none=>simp[rv]at af
 |some y=>
  simp[rv]at af;subst af
  have:y.oneCell'=true:=by
   rw[List.all_eq_true]at eb;exact eb y (List.mem_of_getElem? rv)
  simpa[rv]using br.av (w:=w) (ro:=ro) (σ:=σ) (β:=β) (N:=N) _ _ (.v y this)
theorem Ko{E:Entry}{a:Act}{w:World}{β:Nat→Value}{ro:Nat→Prop}(ag:c2 E G s a w β ro){parts:Array (Nat × Operand)}{ps:List (Nat × aD)}(rH:parts.toList.map (fun p=>(p.1,aI G s p.2))=ps)
 (eb:ps.all (fun p=>(cS p.2).all (eD s.heap))=true):
 ps.map (·.1)=(parts.map fun p=>(p.1,a.eval p.2)).toList.map (·.1)∧
 ∀(j:Nat) (p:Nat × aD) (q:Nat × Value),ps[j]? =some p→(parts.map fun p=>(p.1,a.eval p.2)).toList[j]? =some q→br w ro s.heap β s.next p.2 q.2∧(cS p.2).all (eD s.heap)=true:=by
 subst rH
 refine⟨by simp,fun j p q aa ae=>?_⟩
 have ak:(cS p.2).all (eD s.heap)=true:=by
  rw[List.all_eq_true]at eb;exact eb p (List.mem_of_getElem? aa)
 rw[List.getElem?_map]at aa
 rw[Array.toList_map,List.getElem?_map]at ae
 cases af:parts.toList[j]? with
 |none=>simp[af]at aa
 |some y=>
  simp[af]at aa ae;subst aa ae;exact⟨ag.eval _,ak⟩
theorem RK(t:TypeId)(parts:Array (Nat × Operand))(an:o.op= .build t parts){pl:Nat→Option (Nat × Nat)}(ak:places P t=some pl){zs:List Value}(aR:zeroCells P t=some zs)(sT:zs.all Value.oneCell'=true)
 {ps:List (Nat × aD)}(rH:parts.toList.map (fun p=>(p.1,aI G s p.2))=ps)(eb:ps.all (fun p=>(cS p.2).all (eD s.heap))=true){ds:List aD}(hf:j7 pl (zs.map fun z=>.av (.v z)) ps=some ds):
 cP P G o s (.agg ds):=
 fun _ a w β ro ag=>by
  obtain⟨aa,ae⟩:=Ko ag rH eb;obtain⟨ys,g1,g2,g3⟩:=Dw (place':=pl) (fun _ _ h=>h) ag.heap hf aa ae (xs:=zs.toArray) (by simp) (Kn sT)
  refine⟨.agg ys,?_,.agg _ _ g2 g3⟩
  have ad:=run_build (P:=P) ak aR g1 w
  simp only[execOp,an,Sem.run_bind]
  erw [ad]
  rfl
end
end Go.aK
namespace Go.aK
open Go
mutual
def dX(id:Nat):aD→aD
 | .av x=>.av x
 | .agg cs=>.agg (ef id cs)
 | .tuple cs=>.tuple (ef id cs)
 | .ptr k off=>if k=id then .top else .ptr k off
 | .dz k off=>if k=id then .top else .dz k off
 | .cV k i off=>if k=id then .top else .cV k i off
 | .aN k=>if k=id then .top else .aN k
 | .fn f p q=>.fn f (ef id p) (ef id q)
 | .ref k=>if k=id then .top else .ref k
 | .top=>.top
def ef(id:Nat):List aD→List aD
 |[]=>[]
 |x::r=>dX id x::ef id r
end
def du(id:Nat):Heap→Heap
 |[]=>[]
 |(k,.box t cs)::r=>if k=id then du id r else(k,.box t (ef id cs))::du id r
 |(k,.row z t n es)::r=>if k=id then du id r else(k,.row z t n es)::du id r
 |(k,.bL bO)::r=>if k=id then du id r else(k,.bL bO)::du id r
def ew(id:Nat):ej→ej
 | .box t cs=>.box t (ef id cs)
 | .row z t n es=>.row z t n es
 | .bL bO=>.bL bO
theorem h3(d:Nat): ∀(l:List aD),(ef d l).length=l.length
 |[]=>rfl
 |x::r=>by simp[ef,h3 d r]
theorem hP(d:Nat): ∀{l:List aD} {j:Nat} {x:aD},(ef d l)[j]? =some x→∃y,l[j]? =some y∧x=dX d y
 |[],j,x,h=>by simp[ef]at h
 |y::r,j,x,h=>by
  cases j with
  |zero=>simp[ef]at h;exact⟨y,by simp,h.symm⟩
  |succ j=>simp[ef]at h;simpa using hP d h
theorem qo(id:Nat): ∀(σ:Heap) (k:Nat),aE (du id σ) k=if k=id then none else(aE σ k).map (ew id)
 |[],k=>by simp[du,aE]
 |(j,.box t cs)::r,k=>by
  have aX:=qo id r k
  by_cases af:j=id
  ·subst af
   by_cases aj:k=j
   ·subst aj;simpa[du]using aX
   ·simp[du,aE,aX,aj,Ne.symm aj]
  ·by_cases aj:j=k
   ·subst aj;simp[du,aE,af,ew]
   ·simp[du,aE,af,aj,aX]
 |(j,.row z t n es)::r,k=>by
  have aX:=qo id r k
  by_cases af:j=id
  ·subst af
   by_cases aj:k=j
   ·subst aj;simpa[du]using aX
   ·simp[du,aE,aX,aj,Ne.symm aj]
  ·by_cases aj:j=k
   ·subst aj;simp[du,aE,af,ew]
   ·simp[du,aE,af,aj,aX]
 |(j,.bL bO)::r,k=>by
  have aX:=qo id r k
  by_cases af:j=id
  ·subst af
   by_cases aj:k=j
   ·subst aj;simpa[du]using aX
   ·simp[du,aE,aX,aj,Ne.symm aj]
  ·by_cases aj:j=k
   ·subst aj;simp[du,aE,af,ew]
   ·simp[du,aE,af,aj,aX]
theorem jo(id:Nat)(o:ej):(ew id o).live=o.live:=by cases o<;>rfl
section
variable {P:Program} {G:a7} {s:aO} {E:Entry} {a:Act} {w w':World} {β:Nat→Value} {ro:Nat→Prop}
theorem c2.renew(h:c2 E G s a w β ro)(id:Nat)(ad:s.base≤id)(bG:id<s.next){t0:TypeId}{n0:Nat}{zV:List (List a1)}(bc:aE s.heap id=some (.row false t0 n0 zV))(o:ej)(val:Value)
 (oX:w'.os=w.os)(oY:w'.tape=w.tape)(kE:w'.output=w.output)(bM:w.heap.size≤w'.heap.size)(hw: ∀b,b<w.heap.size→b2 (β id)≠some b→w'.heap[b]? =w.heap[b]?)
 (gH: ∀b,b2 val=some b→b2 (β id)=some b∨w.heap.size≤b)(_hlive:o.live=true)
 (dg:k8 w' ro ((id,o)::du id s.heap) (gV β id val) s.next id o):
 c2 E G ⟨ef id s.cR,(id,o)::du id s.heap,s.next,s.base⟩ a w' (gV β id val) ro:=by
 have cb: ∀b,ro b→w'.heap[b]? =w.heap[b]? :=fun b ag=>hw b (h.heap.lt b ag) fun ad=>h.heap.fg b ag ⟨id,_,bc,rfl,ad⟩
 have ah: ∀k,k≠id→aE ((id,o)::du id s.heap) k=(aE s.heap k).map (ew id):=fun k aj=>by simp[aE,Ne.symm aj,qo,aj]
 have uQ:aE ((id,o)::du id s.heap) id=some o:=by simp[aE]
 have key: ∀x c,br w ro s.heap β s.next x c→br w' ro ((id,o)::du id s.heap) (gV β id val) s.next (dX id x) c:=by
  intro x c hx
  induction hx with
  |av x c hx=>exact .av x c (hx.keep cb fun _ h=>h)
  |agg cs c ai _ aX=>
   refine .agg _ c (by rw[h3];exact ai) fun j x af=>?_
   obtain⟨y,ax,rfl⟩:=hP id af;exact aX j y ax
  |tuple cs c ai _ aX=>
   refine .tuple _ c (by rw[h3];exact ai) fun j x af=>?_
   obtain⟨y,ax,rfl⟩:=hP id af;exact aX j y ax
  |ptr k off c aq ak=>
   simp only[dX]
   split
   ·exact .top _
   ·rename_i aj
    refine .ptr k off c aq fun t cs bm=>?_
    rw[cZ _ _ aj];rw[ah k aj]at bm
    cases ai:aE s.heap k with
    |none=>simp[ai]at bm
    |some p=>
     cases p with
     |box bC cs'=>exact ak bC cs' ai
     |row=>simp[ai,ew]at bm
     |bL=>simp[ai,ew]at bm
  |dz k off c aq ak=>
   simp only[dX]
   split
   ·exact .top _
   ·rename_i aj
    refine .dz k off c aq fun t cs bm=>?_
    rw[cZ _ _ aj];rw[ah k aj]at bm
    cases ai:aE s.heap k with
    |none=>simp[ai]at bm
    |some p=>
     cases p with
     |box bC cs'=>exact ak bC cs' ai
     |row=>simp[ai,ew]at bm
     |bL=>simp[ai,ew]at bm
  |cV k i off c aq ak=>
   simp only[dX]
   split
   ·exact .top _
   ·rename_i aj
    refine .cV k i off c aq fun z t n es bm=>?_
    rw[cZ _ _ aj];rw[ah k aj]at bm
    cases ai:aE s.heap k with
    |none=>simp[ai]at bm
    |some p=>
     cases p with
     |box bC cs'=>simp[ai,ew]at bm
     |bL=>simp[ai,ew]at bm
     |row iv bC cI dP=>
      simp only[ai,Option.map_some,ew,Option.some.injEq,ej.row.injEq]at bm;obtain⟨rfl,rfl,rfl,rfl⟩:=bm;exact ak _ _ _ _ ai
  |aN k c aq ak=>
   simp only[dX]
   split
   ·exact .top _
   ·rename_i aj
    refine .aN k c aq fun z t n es bm=>?_
    rw[cZ _ _ aj];rw[ah k aj]at bm
    cases ai:aE s.heap k with
    |none=>simp[ai]at bm
    |some p=>
     cases p with
     |box bC cs'=>simp[ai,ew]at bm
     |bL=>simp[ai,ew]at bm
     |row iv bC cI dP=>exact ak _ _ _ _ ai
  |fn f p q c d aa ae _ _ hk hl=>
   refine .fn f _ _ c d (by rw[h3];exact aa) (by rw[h3];exact ae) (fun j x af=>?_) (fun j x af=>?_)
   ·obtain⟨y,ax,rfl⟩:=hP id af
    exact hk j y ax
   ·obtain⟨y,ax,rfl⟩:=hP id af
    exact hl j y ax
  |ref k c aq ak=>
   simp only[dX]
   split
   ·exact .top _
   ·rename_i aj
    refine .ref k c aq fun bO bm=>?_
    rw[cZ _ _ aj];rw[ah k aj]at bm
    cases ai:aE s.heap k with
    |none=>simp[ai]at bm
    |some p=>
     cases p with
     |box=>simp[ai,ew]at bm
     |row=>simp[ai,ew]at bm
     |bL lH=>exact ak lH ai
  |top c=>exact .top c
 have dK: ∀k p,k≠id→aE ((id,o)::du id s.heap) k=some p→∃q,aE s.heap k=some q∧p=ew id q:=by
  intro k p aj bm;rw[ah k aj]at bm
  cases ai:aE s.heap k with
  |none=>simp[ai]at bm
  |some q=>simp[ai]at bm;exact⟨q,rfl,bm.symm⟩
 refine⟨h.defers,by simpa[h3]using h.size,fun i x hx=>?_,⟨fun k p aj=>?_,fun k bj p fW b aj eA ak gI bf et=>?_,fun b ag=>?_,fun b ag=>Nat.lt_of_lt_of_le (h.heap.lt b ag) bM⟩,
  h.ib.keep cb fun _ h=>h,?_,h.base⟩
 ·obtain⟨y,ax,rfl⟩:=hP id hx
  exact key _ _ (h.slot i y ax)
 ·by_cases bw:k=id
  ·subst bw
   rw[uQ]at aj;simp only[Option.some.injEq]at aj;subst aj;exact dg
  ·obtain⟨q,aH,rfl⟩:=dK k p bw aj
   have gJ:=h.heap.c5 k q aH
   have b3:q.live=true→∀b,b2 (β k)=some b→w'.heap[b]? =w.heap[b]? :=fun aq b bf=>
    hw b (gJ.hJ aq bf) fun jM=>bw (h.heap.inj k id q _ b aH bc aq rfl bf jM)
   cases gJ with
   |box t cs b arr aa ae au aP=>
    refine .box t _ b arr (by rw[cZ _ _ bw];exact aa) ((b3 rfl b (by rw[aa];rfl)).trans ae) (by rw[h3];exact au) fun j x af=>?_
    obtain⟨y,ax,rfl⟩:=hP id af;exact key _ _ (aP j y ax)
   |row t n es xs aa ae au=>exact .row t n es xs (by rw[cZ _ _ bw];exact aa.keep (fun b ad=>b3 rfl b ad) bM) ae fun j x af=>(au j x af).keep cb fun _ h=>h
   |ga t n es aa=>exact .ga t n es (by rw[cZ _ _ bw];exact aa.keep cb fun _ h=>h)
   |bL bO b o aa ae au=>exact .bL bO b o (by rw[cZ _ _ bw];exact aa) ((b3 rfl b aa).trans ae) (by rw[cZ _ _ bw];exact bO.mono _ _ _ _ (fun x c h=>h.keep cb fun _ h=>h) au)
 ·by_cases bw:k=id
  ·by_cases gK:bj=id
   ·rw[bw,gK]
   ·subst bw
    rw[dR]at bf;rw[cZ _ _ gK]at et;obtain⟨q,aH,rfl⟩:=dK bj fW gK eA;rw[jo]at gI
    have ae:=(h.heap.c5 bj q aH).hJ gI et
    rcases gH b bf with aa|aa
    ·exact(h.heap.inj bj k q _ b aH bc gI rfl et aa).symm
    ·omega
  ·obtain⟨q,aH,rfl⟩:=dK k p bw aj
   rw[jo]at ak;rw[cZ _ _ bw]at bf
   by_cases gK:bj=id
   ·subst gK
    rw[dR]at et
    have ae:=(h.heap.c5 k q aH).hJ ak bf
    rcases gH b et with aa|aa
    ·exact h.heap.inj k bj q _ b aH bc ak rfl bf aa
    ·omega
   ·obtain⟨q',uR,rfl⟩:=dK bj fW gK eA
    rw[jo]at gI;rw[cZ _ _ gK]at et;exact h.heap.inj k bj q q' b aH uR ak gI bf et
 ·rintro⟨k,p,aj,ak,bf⟩
  by_cases bw:k=id
  ·subst bw
   rw[dR]at bf
   rcases gH b bf with aa|aa
   ·exact h.heap.fg b ag ⟨k,_,bc,rfl,aa⟩
   ·have:=h.heap.lt b ag;omega
  ·obtain⟨q,aH,rfl⟩:=dK k p bw aj
   rw[jo]at ak;rw[cZ _ _ bw]at bf;exact h.heap.fg b ag ⟨k,q,aH,ak,bf⟩
 ·have t:=h.trans
  refine⟨oX.trans t.os,oY.trans t.tape,kE.trans t.output,Nat.le_trans t.size bM,fun b hL gd=>?_,t.jk,t.j1,?_,fun k aj p bm=>?_,fun k p bm=>?_,t.le⟩
  ·by_cases jM:b2 (β id)=some b
   ·rcases t.hj b ⟨id,_,bc,rfl,jM⟩with hc|hc
    ·exact absurd hc gd
    ·omega
   ·rw[hw b (Nat.lt_of_lt_of_le hL t.size) jM]
    exact t.frame b hL gd
  ·rintro b ⟨k,p,aj,ak,bf⟩
   by_cases bw:k=id
   ·subst bw
    rw[dR]at bf
    rcases gH b bf with aa|aa
    ·exact t.hj b ⟨k,_,bc,rfl,aa⟩
    ·exact .inr (Nat.le_trans t.size aa)
   ·obtain⟨q,aH,rfl⟩:=dK k p bw aj
    rw[jo]at ak;rw[cZ _ _ bw]at bf;exact t.hj b ⟨k,q,aH,ak,bf⟩
  ·have bw:k≠id:=by have:=h.base;omega
   obtain⟨q,aH,rfl⟩:=dK k p bw bm;rw[cZ _ _ bw];exact t.dK k aj q aH
  ·by_cases bw:k=id
   ·subst bw;exact bG
   ·obtain⟨q,aH,rfl⟩:=dK k p bw bm
    exact t.new k q aH
def chunk{α:Type}(n:Nat):Nat→List α→List (List α)
 |0,_=>[]
 |k+1,l=>l.take n::chunk n k (l.drop n)
theorem zW{α:Type}(n:Nat): ∀(k:Nat) (l:List α),(chunk n k l).length=k
 |0,_=>rfl
 |k+1,l=>by simp[chunk,zW n k]
theorem RL{α:Type}(n:Nat): ∀(k:Nat) (l:List α),l.length=k*n→∀e∈chunk n k l,e.length=n
 |0,_,_,e,he=>by simp[chunk]at he
 |k+1,l,h,e,he=>by
  rw[Nat.succ_mul]at h;simp only[chunk,List.mem_cons]at he
  rcases he with rfl|he
  ·simp;omega
  ·exact RL n k (l.drop n) (by simp;omega) e he
theorem RM{α:Type}(n:Nat): ∀(k:Nat) (l:List α),l.length=k*n→(chunk n k l).flatten=l
 |0,l,h=>by
  have:l=[]:=List.eq_nil_of_length_eq_zero (by simpa using h)
  simp[chunk,this]
 |k+1,l,h=>by
  rw[Nat.succ_mul]at h;simp only[chunk,List.flatten_cons];rw[RM n k (l.drop n) (by simp;omega),List.take_append_drop]
theorem ia.Dy{w:World}{t:TypeId}{n:Nat}{v:Value}{len:Nat}{xs:List Value}(h:w.ownsRow 0 t n v len xs):ia w t n v len xs:=by
 obtain⟨aq,ag⟩:=h
 refine⟨aq,?_⟩
 rcases ag with⟨aa,ae⟩|⟨g,cap,cur,aw,_,ah,hle,ie,dI,aG⟩
 ·exact .inl ⟨⟨none,aa,fun _ h=>(by cases h)⟩,ae⟩
 ·by_cases hc:cap=0
  ·subst hc
   have:len=0:=by omega
   subst this;exact .inl ⟨⟨_,aw,fun a aZ=>(by cases aZ;exact(Array.getElem?_eq_some_iff.1 ah).1)⟩,rfl⟩
  ·exact .inr ⟨g,cap,cur,aw,by omega,ah,hle,ie,dI,aG⟩
def w1(P:Program)(G:a7)(o:Oper)(s:aO)(t:TypeId)(n:Nat)(es:List (List a1)):Prop:=
 (∀e∈es,e.length=n)∧∀E a w β ro,c2 E G s a w β ro→∃v xs w',(execOp a.eval o).run P w= .ok (.value v) w'∧w'.ownsRow 0 t n v es.length xs∧w.grownBy w' none∧(∀b,b2 v=some b→w.heap.size≤b)∧
  ∀j x,es.flatten[j]? =some x→cQ w ro x (xs.getD j undef)
theorem dQ.newRow{o:Oper}{t:TypeId}{n:Nat}{es:List (List a1)}(ad:s.base≤s.next)(ba:w1 P G o s t n es):
 dQ P G o s ({s with heap:=(s.next,.row false t n es)::s.heap,next:=s.next+1}.put o.dst (.aN s.next)):=by
 obtain⟨hn,h⟩:=ba
 intro E a w ⟨β,ro,ag⟩ K Q hK
 obtain⟨v,xs,w',cq,hA,cT,gH,eV⟩:=h E a w β ro ag
 unfold Oper.wp
 rw[cq]
 have jl:aE s.heap s.next=none:=by
  cases ah:aE s.heap s.next with
  |none=>rfl
  |some p=>have:=ag.trans.new _ _ ah;omega
 have hw: ∀b,b<w.heap.size→w'.heap[b]? =w.heap[b]? :=fun b ad=>cT.block b ad (by simp)
 have cb: ∀b,ro b→w'.heap[b]? =w.heap[b]? :=fun b ad=>hw b (ag.heap.lt b ad)
 have fc:c2 E G {s with heap:=(s.next,.row false t n es)::s.heap,next:=s.next+1} a w' (gV β s.next v) ro:=by
  refine ag.new s.next jl ad (Nat.le_refl _) _ v cT.os cT.tape cT.output cT.size hw gH rfl ?_
  exact .row t n es xs (by rw[dR];exact .Dy hA) hn fun j x af=>(eV j x af).keep cb fun _ h=>h
 refine hK _ _ ⟨_,ro,fc.put o.dst _ _ ?_⟩
 exact .aN _ _ (Nat.lt_succ_self _) fun z bC cI dP _=>(dR _ _ _).symm
theorem zdy{o:Oper}(t:TypeId)(len:Nat)(parts:Array (Nat × Operand))(an:o.op= .buildSlice t len parts){e n:Nat}(hu:P.underlying t=some (.slice e))(bM:(P.info? e).map (·.size)=some n)
 {zs:List Value}(aR:zeroCells P e=some zs)(sT:zs.all Value.oneCell'=true)(mo:zs.length=n)(hlen:0<len*n∧len*n≤16777216)
 {ps:List (Nat × aD)}(rH:parts.toList.map (fun p=>(p.1,aI G s p.2))=ps)(eb:ps.all (fun p=>(cS p.2).all (eD s.heap))=true)
 {ds:List aD}(hf:j7 (fun i=>some (i*n,n)) ((List.replicate len (zs.map fun z=>aD.av (.v z))).flatten) ps=some ds){rs:List a1}(gL:iP ds=some rs):
 w1 P G o s e n (chunk n len rs):=by
 have m5:ds.length=len*n:=by
  have: ∀(ps:List (Nat × aD)) (cs ds:List aD),j7 (fun i=>some (i*n,n)) cs ps=some ds→ds.length=cs.length:=by
   intro ps
   induction ps with
   |nil=>intro cs ds h;simp[j7]at h;rw[h]
   |cons p r aX=>
    intro cs ds h;obtain⟨i,v⟩:=p;simp only[j7]at h
    split at h
    ·rename_i hc
     rw[aX _ _ h,qi _ _ _ (by omega)]
    ·cases h
  rw[this ps _ _ hf,j2 (n:=n) (fun e he=>by rw[List.mem_replicate]at he;rw[he.2];simpa using mo)]
  simp
 have RN:rs.length=len*n:=by rw[←m5,Dk gL];simp
 refine⟨RL n len rs RN,fun E a w β ro ag=>?_⟩
 obtain⟨aa,ae⟩:=Ko ag rH eb
 obtain⟨z,j5,o0,_⟩:=zJ aR w
 have eV:(List.replicate len (zs.map fun z=>aD.av (.v z))).flatten.length=len*n:=by
  rw[j2 (n:=n) (fun e he=>by rw[List.mem_replicate]at he;rw[he.2];simpa using mo)];simp
 have zdz:zs.toArray.size=n:=by simpa using mo
 have rI:0<n:=by
  rcases Nat.eq_zero_or_pos n with h|h
  ·rw[h]at hlen;simp at hlen
  ·exact h
 obtain⟨ys,g1,g2,g3⟩:=Dw (place':=fun i=>some (i*n,n)) (fun _ _ h=>h) ag.heap hf aa ae (xs:=(Array.range (len*n)).map fun x=>zs.toArray[x%zs.toArray.size]!) (by rw[eV];simp) (fun j x af=>by
  have cL:j<len*n:=by rw[←eV];exact(List.getElem?_eq_some_iff.1 af).1
  have hm:j=(j/ n)*n+j%n:=by rw[Nat.mul_comm];exact(Nat.div_add_mod j n).symm
  have nW:j%n<n:=Nat.mod_lt _ rI
  have nX:j/ n<len:=by rw[Nat.div_lt_iff_lt_mul rI];exact cL
  rw[hm,rq (n:=n) (fun e he=>by rw[List.mem_replicate]at he;rw[he.2];simpa using mo) (i:=j/ n) (e:=zs.map fun z=>aD.av (.v z)) (by simp[nX]) (j%n) nW]at af
  have:=Kn (w:=w) (ro:=ro) (σ:=s.heap) (β:=β) (N:=s.next) sT (j%n) x af
  have aB:(Array.map (fun x=>zs.toArray[x%zs.toArray.size]!) (Array.range (len*n))).getD j undef=zs.toArray.getD (j%n) undef:=by
   have au:j%n<zs.length:=by omega
   simp[cL,mo,List.getElem?_eq_getElem au]
  rw[aB]
  exact this)
 have mj:ys.toList.length=(chunk n len rs).length*n:=by rw[zW];simpa[m5]using g2
 refine⟨.slice (some ⟨w.heap.size,0,none⟩) len len,ys.toList,w.alloc (.cells ys e),?_,?_,World.grownBy_alloc w _ none,fun b bf=>?_,fun j x af=>?_⟩
 ·have zX:(sizeOf e).run P w= .ok n w:=by
   cases hi:P.info? e with
   |none=>simp[hi]at bM
   |some i=>simp[hi]at bM;simp[sizeOf,typeInfo,hi,bM]
  have b3: ¬len*n>2^24:=by omega
  have jq: ¬len*n=0:=by omega
  simp only[execOp,an,Sem.run_bind,Instr.buildSlice,run_underlying hu,Result.andThen_ok,zX,if_neg b3,if_neg jq,j5,Sem.run_pure,o0]
  erw [g1]
  simp[newRow]
 ·rw[zW]
  exact World.ownsRow_lit w ys len (Nat.zero_le _) (by simp only[maxLen];have:=Nat.le_mul_of_pos_right len rI;omega) (by simpa[m5]using g2)
 ·simp only[b2]at bf
  split at bf
  ·cases bf
  ·simp at bf;omega
 ·rw[RM n len rs RN]at af
  have au:=g3 j (.av x) (by rw[Dk gL];simp[af])
  cases au with
  |av _ _ au=>
   have:ys.toList.getD j undef=ys.getD j undef:=by simp[List.getD,Array.getD_eq_getD_getElem?]
   rw[this];exact au
end
end Go.aK
