/- The AV calculus, part G: code, loops, the beginning and the end of a call. Conditions: none. -/
import Derived.Test.YtmkpmgfieagphaaGreatDoorHSMf
namespace Go.aN
open Go
def lift(E:Entry)(G:bc)(Q:Exit→aQ→Prop):Exit→Act→World→Prop:=fun e a w=>∃s,Q e s∧Rel E G s a w
def b7(P:Program)(G:bc)(c:Code)(Q:Exit→aQ→Prop)(s:aQ):Prop:=∀E a w,Rel E G s a w→c.wp P (lift E G Q) a w
def cD(P:Program)(G:bc)(ops:Array Oper)(Q:Exit→aQ→Prop)(l:List Oper)(s:aQ):Prop:=∀E a w,Rel E G s a w→wpList P ops (lift E G Q) l a w
section
variable {P:Program} {G:bc} {Q:Exit→aQ→Prop} {s:aQ}
theorem b7.region{id:Nat}{l:List Oper}(h:cD P G l.toArray Q l s):b7 P G (.region id l.toArray false) Q s:=fun E a w ag=>wp_region_lit (h E a w ag)
theorem cD.nil{ops:Array Oper}(h:Q .normal s):cD P G ops Q [] s:=fun _ _ _ ag=>wpList_nil ⟨s,h,ag⟩
theorem cD.cons{ops:Array Oper}{o:Oper}{rest:List Oper}{bF:aQ}(ah:o.guard=none)(h:dY P G o s bF)(k:cD P G ops Q rest bF):cD P G ops Q (o::rest) s:=
 fun E a w ag=>wpList_plain ah fun _ hK=>h E a w ag _ _ fun bg w' ed=>hK bg w' (k E bg w' ed)
def my(ops:Array Oper)(j:Nat):Option Nat:=(ops[j]?).bind (·.dst)
theorem Ly{ops:Array Oper}{E:Entry}{a:Act}{w:World}(ag:Rel E G s a w){j d:Nat}(af:my ops j=some d){b:Bool}(hd:s.c0[d]? =some (.av (.v (.bool b)))):yielded ops a.tmps j=some b:=by
 obtain⟨β,ro,h⟩:=ag
 have ai:=bG.val (h.slot d _ hd)
 have bM:d<a.tmps.size:=by rw[h.size];exact(List.getElem?_eq_some_iff.1 hd).1
 unfold my at af
 unfold yielded
 rw[af]
 simp only[Option.bind_some]
 simp[bM]at ai
 simp[bM,ai]
theorem SS{ops:Array Oper}{E:Entry}{a:Act}{w:World}(ag:Rel E G s a w){j d:Nat}(af:my ops j=some d){cs:List aD}(hd:s.c0[d]? =some (.tuple cs)):yielded ops a.tmps j=none:=by
 obtain⟨β,ro,h⟩:=ag
 have ai:=h.slot d _ hd
 have bM:d<a.tmps.size:=by rw[h.size];exact(List.getElem?_eq_some_iff.1 hd).1
 unfold my at af
 unfold yielded
 rw[af]
 simp only[Option.bind_some]
 simp[bM]at ai
 generalize a.tmps[d]=c at ai
 have aK:a.tmps[d]? =some a.tmps[d]:=by simp[bM]
 have ai:=h.slot d _ hd
 simp[bM]at ai
 cases e1:a.tmps[d]with
 |tuple x=>simp[aK,e1]
 |_=>rw[e1]at ai;cases ai
theorem cD.guarded{ops:Array Oper}{o:Oper}{rest:List Oper}{bF:aQ}{j d:Nat}{b:Bool}(ah:o.guard=some (j,b))(af:my ops j=some d)(hd:s.c0[d]? =some (.av (.v (.bool b))))
 (h:dY P G o s bF)(k:cD P G ops Q rest bF):cD P G ops Q (o::rest) s:=
 fun E a w ag=>wpList_step fun _ hK=>by
  have ay:=Ly ag af hd
  simp only[Region.wanted,ah,ay,beq_self_eq_true,if_true];exact h E a w ag _ _ fun bg w' ed=>hK bg w' (k E bg w' ed)
theorem Rel.Ee{E:Entry}{a:Act}{w:World}(ag:Rel E G s a w)(dst:Option Nat):Rel E G (s.put dst (.tuple [])) (a.put dst undef) w:=by
 obtain⟨β,ro,h⟩:=ag
 exact⟨β,ro,h.put dst _ _ (.tuple _ _ rfl (by simp))⟩
theorem cD.zfv{ops:Array Oper}{o:Oper}{rest:List Oper}{j d:Nat}{b:Bool}(ah:o.guard=some (j,b))(af:my ops j=some d)(hd:s.c0[d]? =some (.av (.v (.bool (!b)))))
 (k:cD P G ops Q rest (s.put o.dst (.tuple []))):cD P G ops Q (o::rest) s:=
 fun E a w ag=>by
  have ay:=Ly ag af hd
  refine wpList_skip ?_ (k E _ w (ag.Ee o.dst))
  simp only[Region.wanted,ah,ay]
  cases b<;>rfl
theorem cD.zfw{ops:Array Oper}{o:Oper}{rest:List Oper}{j d:Nat}{b:Bool}(ah:o.guard=some (j,b))(af:my ops j=some d){cs:List aD}(hd:s.c0[d]? =some (.tuple cs))
 (k:cD P G ops Q rest (s.put o.dst (.tuple []))):cD P G ops Q (o::rest) s:=
 fun E a w ag=>by
  have ay:=SS ag af hd
  refine wpList_skip ?_ (k E _ w (ag.Ee o.dst))
  simp only[Region.wanted,ah,ay]
  cases b<;>rfl
def zfx(P:Program)(G:bc)(c:Code)(Q:Exit→aQ→Prop):Exit→aQ→Prop
 | .normal,s=>b7 P G c Q s
 |e,s=>Q e s
theorem b7.seq{x y:Code}(h:b7 P G x (zfx P G y Q) s):b7 P G (.seq x y) Q s:=fun E a w ag=>by
 refine wp_seq (wp_mono (h E a w ag) fun e bg w' aK=>?_)
 obtain⟨bF,aa,ae⟩:=aK
 cases e with
 |normal=>exact aa E bg w' ae
 |_=>exact⟨bF,aa,ae⟩
theorem b7.cond{x:Operand}{c d:Code}{b:Bool}(hx:aL G s x= .av (.v (.bool b)))(aH:b=true→b7 P G c Q s)(hf:b=false→b7 P G d Q s):b7 P G (.cond x c d) Q s:=fun E a w ag=>by
 obtain⟨β,ro,h⟩:=ag
 exact wp_cond_split (h.en hx) (fun e=>aH e E a w ⟨β,ro,h⟩) (fun e=>hf e E a w ⟨β,ro,h⟩)
theorem b7.SU{x:Operand}{c d:Code}(hx:aL G s x= .av (.v (.bool true)))(aH:b7 P G c Q s):b7 P G (.cond x c d) Q s:=b7.cond hx (fun _=>aH) (fun h=>by cases h)
theorem b7.SV{x:Operand}{c d:Code}(hx:aL G s x= .av (.v (.bool false)))(hf:b7 P G d Q s):b7 P G (.cond x c d) Q s:=b7.cond hx (fun h=>by cases h) (fun _=>hf)
theorem b7.skip(h:Q .normal s):b7 P G .skip Q s:=fun _ _ _ ag=>wp_skip ⟨s,h,ag⟩
theorem b7.ret(h:Q .ret s):b7 P G .ret Q s:=fun _ _ _ ag=>wp_ret ⟨s,h,ag⟩
theorem b7.exit{id:Nat}(h:Q (.exit id) s):b7 P G (.exit id) Q s:=fun _ _ _ ag=>wp_exit ⟨s,h,ag⟩
theorem b7.mono{c:Code}{Q':Exit→aQ→Prop}(h:b7 P G c Q s)(aK: ∀e s,Q e s→Q' e s):b7 P G c Q' s:=fun E a w ag=>
 wp_mono (h E a w ag) fun e _ _ ⟨bF,aa,ae⟩=>⟨bF,aK e bF aa,ae⟩
def SW(id:Nat)(Q:Exit→aQ→Prop):Exit→aQ→Prop
 | .exit gv,s=>bif Nat.beq gv id then Q .normal s else Q (.exit gv) s
 |e,s=>Q e s
theorem b7.block{id:Nat}{c:Code}(h:b7 P G c (SW id Q) s):b7 P G (.block id c) Q s:=fun E a w ag=>by
 refine wp_block (wp_mono (h E a w ag) fun e bg w' aK=>?_)
 obtain⟨bF,aa,ae⟩:=aK
 cases e with
 |exit gv=>
  simp only[SW,Exit.inBlock]at*
  split
  ·rename_i he
   have ad:Nat.beq gv id=true:=by simpa using he
   rw[ad]at aa;exact⟨bF,aa,ae⟩
  ·rename_i he
   have ad:Nat.beq gv id=false:=by
    cases aK:Nat.beq gv id with
    |false=>rfl
    |true=>exact absurd (Nat.eq_of_beq_eq_true aK) he
   rw[ad]at aa;exact⟨bF,aa,ae⟩
 |_=>exact⟨bF,aa,ae⟩
def cw(s bF:aQ):Prop:=∀E (G:bc) a w,Rel E G s a w→Rel E G bF a w
theorem cw.refl(s:aQ):cw s s:=fun _ _ _ _ h=>h
theorem cw.trans{s bF SX:aQ}(h:cw s bF)(k:cw bF SX):cw s SX:=fun E G a w ag=>k E G a w (h E G a w ag)
theorem b7.le{c:Code}{bF:aQ}(h:cw s bF)(k:b7 P G c Q bF):b7 P G c Q s:=fun E a w ag=>k E a w (h E G a w ag)
theorem cD.le{ops:Array Oper}{l:List Oper}{bF:aQ}(h:cw s bF)(k:cD P G ops Q l bF):cD P G ops Q l s:=fun E a w ag=>k E a w (h E G a w ag)
theorem b7.loop{ι:Type}(st:ι→aQ)(inv:ι→Prop)(mu:ι→Nat){c:Code}(x:ι)(aJ:cw s (st x))(hi:inv x)
    (round: ∀x,inv x→b7 P G c (fun e bF=>match e with
      | .normal=>∃y,inv y∧mu y<mu x∧cw bF (st y)
      |e=>Q e bF) (st x)):b7 P G (.loop c) Q s:=fun E a w ag=>by
  have key: ∀n x,mu x=n→inv x→∀a w,Rel E G (st x) a w→(Code.loop c).wp P (lift E G Q) a w:=by
    intro n x hn hx a w ag;refine wp_loop (fun a w=>∃y,inv y∧Rel E G (st y) a w) (fun a w=>Classical.epsilon fun m=>∃y,inv y∧Rel E G (st y) a w∧mu y=m∧∀z,inv z→Rel E G (st z) a w→m≤mu z) ⟨x,hx,ag⟩ ?_
    intro a w ⟨di,xk,zfy⟩
    have hex: ∃m,∃y,inv y∧Rel E G (st y) a w∧mu y=m∧∀z,inv z→Rel E G (st z) a w→m≤mu z:=by
      have: ∀k y,mu y=k→inv y→Rel E G (st y) a w→∃m,∃y,inv y∧Rel E G (st y) a w∧mu y=m∧∀z,inv z→Rel E G (st z) a w→m≤mu z:=by
        intro k
        induction k using Nat.strongRecOn with
        |_ k aZ=>
          intro y aj ay AH
          by_cases rB: ∀z,inv z→Rel E G (st z) a w→mu y≤mu z
          · exact⟨mu y,y,ay,AH,rfl,rB⟩
          · simp only[Classical.not_forall]at rB
            obtain⟨z,aT,kd,bM⟩:=rB;exact aZ (mu z) (by omega) z rfl aT kd
      exact this _ di rfl xk zfy
    obtain⟨y,ay,AH,zfz,_⟩:=Classical.epsilon_spec hex;refine wp_mono (round y ay E a w AH) fun e bg w' aK=>?_
    obtain⟨bF,aa,ae⟩:=aK
    cases e with
    |normal=>
      obtain⟨z,aT,bM,hle⟩:=aa
      have kd:=hle E G bg w' ae
      refine⟨⟨z,aT,kd⟩,?_⟩
      have zfA: ∃m,∃y,inv y∧Rel E G (st y) bg w'∧mu y=m∧∀z,inv z→Rel E G (st z) bg w'→m≤mu z:=by
        have: ∀k y,mu y=k→inv y→Rel E G (st y) bg w'→∃m,∃y,inv y∧Rel E G (st y) bg w'∧mu y=m∧∀z,inv z→Rel E G (st z) bg w'→m≤mu z:=by
          intro k
          induction k using Nat.strongRecOn with
          |_ k aZ=>
            intro y aj ay AH
            by_cases rB: ∀z,inv z→Rel E G (st z) bg w'→mu y≤mu z
            · exact⟨mu y,y,ay,AH,rfl,rB⟩
            · simp only[Classical.not_forall]at rB
              obtain⟨z,aT,kd,bM⟩:=rB;exact aZ (mu z) (by omega) z rfl aT kd
        exact this _ z rfl aT kd
      obtain⟨_,_,_,_,rB⟩:=Classical.epsilon_spec zfA
      have au:=rB z aT kd
      rw[←zfz];exact Nat.lt_of_le_of_lt au bM
    |_=>exact⟨bF,aa,ae⟩
  exact key _ x rfl hi a w (aJ E G a w ag)
end
def dN(P:Program)(G:bc)(f:FuncId)(args:List aD)(σ:Heap)(n:Nat)(Q:aD→Heap→Prop):Prop:=
 ∀w β ro (ei:Array Value),ei.size=args.length→(∀i x,args[i]? =some x→bG w ro σ β n x (ei.getD i undef))→ho w ro σ β n→so w ro G→(∀id o,aE σ id=some o→id<n)→
  Calls P f ei w fun e w'=>∃v r eZ dU ro' cS,e= .returned v∧Q r eZ∧bG w' ro' eZ dU cS r v∧ho w' ro' eZ dU cS∧Trans ⟨w,ro,σ,β,n⟩ w' ro' eZ dU cS
def nb(P:Program)(s:aQ):List ResultVar→Option (List aD)
 |[]=>some []
 | .tmp t::r=>match nb P s r with
  |some l=>some (s.c0.getD t .top::l)
  |none=>none
 | .cell p t::r=>match nb P s r,fu s.heap (s.c0.getD p .top)with
  |some l,some cs=>match mr P t with
   |some n=>if n≤cs.length∧0<n then some (.agg (cs.take n)::l)else none
   |none=>if scalar P t then match cs with
    |y::_=>some (y::l)
    |[]=>none
    else none
  |_,_=>none
def AI(P:Program)(fn:Func)(s:aQ):Option aD:=
 match nb P s fn.results.toList with
 |some [x]=>some x
 |some l=>some (.tuple l)
 |none=>none
def zfB(P:Program)(fn:Func)(Q:aD→Heap→Prop):Exit→aQ→Prop:=fun e s=>
 (e= .normal∨e= .ret)∧∃r eZ,AI P fn s=some r∧(∀id o,aE eZ id=some o→aE s.heap id=some o)∧Q r eZ
theorem ho.sub{w:World}{ro:Nat→Prop}{σ eZ:Heap}{β:Nat→Value}{N:Nat}(h:ho w ro σ β N)(ai: ∀id o,aE eZ id=some o→aE σ id=some o):ho w ro eZ β N:=by
 refine⟨fun id o ah=>(h.dh id o (ai id o ah)).keep (fun _ _=>rfl) (fun _ h=>h) (Nat.le_refl _) (Nat.le_refl _) rfl (fun _ _ _=>rfl) (fun id t cs ah=>⟨rfl,t,cs,ai id _ ah⟩) (fun id z t n es ah=>⟨rfl,z,t,es,ai id _ ah⟩) (fun id bW ah=>⟨rfl,bW,ai id _ ah⟩),
  fun id gv o cG b aa ae=>h.inj id gv o cG b (ai id o aa) (ai gv cG ae),fun b ad ⟨id,o,ah,aq,bk⟩=>h.fo b ad ⟨id,o,ai id o ah,aq,bk⟩,h.lt⟩
theorem bG.sub{w:World}{ro:Nat→Prop}{σ eZ:Heap}{β:Nat→Value}{N:Nat}{x:aD}{c:Value}(h:bG w ro σ β N x c)(ai: ∀id o,aE eZ id=some o→aE σ id=some o):bG w ro eZ β N x c:=
 h.keep (fun _ _=>rfl) (fun _ h=>h) (Nat.le_refl _) (fun id t cs ah=>⟨rfl,t,cs,ai id _ ah⟩) (fun id z t _ es ah=>⟨rfl,z,t,es,ai id _ ah⟩) (fun id bW ah=>⟨rfl,bW,ai id _ ah⟩)
theorem Trans.sub{E:Entry}{w:World}{ro:Nat→Prop}{σ eZ:Heap}{β:Nat→Value}{n:Nat}(h:Trans E w ro σ β n)(ai: ∀id o,aE eZ id=some o→aE σ id=some o):Trans E w ro eZ β n:=
 ⟨h.os,h.tape,h.output,h.size,h.frame,h.jo,h.j9,fun b ⟨id,o,ah,aq,bk⟩=>h.hp b ⟨id,o,ai id o ah,aq,bk⟩,fun id hi o ah=>h.dT id hi o (ai id o ah),fun id o ah=>h.new id o (ai id o ah),h.le⟩
section
variable {P:Program} {G:bc}
def uZ(tmps:Array Value):ResultVar→Sem Value
 | .tmp t=>pure (tmps.getD t undef)
 | .cell p t=>do
  let b ←asAddr (tmps.getD p undef)
  loadVar t b
theorem zfC(fn:Func)(tmps:Array Value):results fn tmps=(do
    let vs ←fn.results.mapM (uZ tmps)
    pure (if h:vs.size=1 then vs[0]else .tuple vs)):=by
  unfold results
  have:(fun x=>match x with
      |ResultVar.tmp t=>(pure (tmps.getD t undef):Sem Value)
      |ResultVar.cell p t=>do
        let b ←asAddr (tmps.getD p undef)
        loadVar t b)=uZ tmps:=by
    funext x
    cases x<;>rfl
  rw[←this];rfl
theorem LA{E:Entry}{s:aQ}{a:Act}{w:World}{β:Nat→Value}{ro:Nat→Prop}(h:dc E G s a w β ro): ∀{rs:List ResultVar} {l:List aD},nb P s rs=some l→
 ∃vs:List Value,(rs.mapM (uZ a.tmps)).run P w= .ok vs w∧vs.length=l.length∧∀j x,l[j]? =some x→bG w ro s.heap β s.next x (vs.getD j undef)
 |[],l,aq=>by
  simp[nb]at aq;subst aq;exact⟨[],by simp,rfl,by simp⟩
 | .tmp t::r,l,aq=>by
  simp only[nb]at aq
  cases ag:nb P s r with
  |none=>simp[ag]at aq
  |some h7=>
   simp only[ag,Option.some.injEq]at aq;subst aq;obtain⟨vs,aa,ae,au⟩:=LA h ag;refine⟨a.tmps.getD t undef::vs,by simp only[List.mapM_cons,Sem.run_bind,uZ,Sem.run_pure,Result.andThen_ok,aa],by simp[ae],fun j x af=>?_⟩
   cases j with
   |zero=>
    simp at af;subst af;exact h.eval (.tmp t)
   |succ j=>exact au j x af
 | .cell p t::r,l,aq=>by
  simp only[nb]at aq
  cases ag:nb P s r with
  |none=>simp[ag]at aq
  |some h7=>
   cases hc:fu s.heap (s.c0.getD p .top)with
   |none=>rw[ag,hc]at aq;cases aq
   |some cs=>
    rw[ag,hc]at aq;simp only at aq;obtain⟨vs,aa,ae,au⟩:=LA h ag
    have ea:=h.eval (.tmp p)
    simp only[aL,Act.eval]at ea
    cases bY:mr P t with
    |some n=>
     simp only[bY]at aq
     split at aq
     ·rename_i hn
      simp only[Option.some.injEq]at aq;subst aq;obtain⟨c8,u0,f,hf⟩:=xg h.heap hc ea (by intro e;subst e;simp at hn;omega)
      obtain⟨g1,g2⟩:=D8 bY w
      have mz:=run_loadCells (P:=P) w c8 n f (fun j af=>(hf j (cs[j]'(by omega)) (by simp)).1)
      refine⟨.agg ((List.range n).map f).toArray::vs,?_,by simp[ae],fun j x af=>?_⟩
      ·simp only[List.mapM_cons,Sem.run_bind,uZ,u0,asAddr,Sem.run_pure,Result.andThen_ok,loadVar,g1,g2,if_true,mz,aa]
      ·cases j with
       |zero=>
        simp at af;subst af;refine .agg _ _ (by simp;omega) fun j y af=>?_
        rw[List.getElem?_take]at af
        split at af
        ·have:=(hf j y af).2
         rename_i mY;simpa[mY]using this
        ·cases af
       |succ j=>exact au j x af
     ·cases aq
    |none=>
     simp only[bY]at aq
     split at aq
     ·rename_i hsc
      cases cs with
      |nil=>simp at aq
      |cons y cs'=>
       simp only[Option.some.injEq]at aq;subst aq;obtain⟨c8,u0,f,hf⟩:=xg h.heap hc ea (by simp)
       have g1:=Av hsc w
       obtain⟨k8,dG⟩:=hf 0 y rfl;rw[show c8.add 0=c8 from by simp[Addr.add]]at k8
       refine⟨f 0::vs,?_,by simp[ae],fun j x af=>?_⟩
       ·simp only[List.mapM_cons,Sem.run_bind,uZ,u0,asAddr,Sem.run_pure,Result.andThen_ok,loadVar,g1]
        simp[run_load,k8,aa]
       ·cases j with
        |zero=>simp at af;subst af;exact dG
        |succ j=>exact au j x af
     ·cases aq
theorem zfD{E:Entry}{s:aQ}{a:Act}{w:World}{β:Nat→Value}{ro:Nat→Prop}(h:dc E G s a w β ro){fn:Func}{r:aD}(ag:AI P fn s=some r):
 ∃v,(results fn a.tmps).run P w= .ok v w∧bG w ro s.heap β s.next r v:=by
 unfold AI at ag
 cases aY:nb P s fn.results.toList with
 |none=>simp[aY]at ag
 |some l=>
  rw[aY]at ag;obtain⟨vs,aa,ae,au⟩:=LA h aY
  have hm:(fn.results.mapM (uZ a.tmps)).run P w= .ok vs.toArray w:=by
   rw[Array.mapM_eq_mapM_toList];simp only[Sem.run_map,aa]
   first|rfl|simp
  have rC:(results fn a.tmps).run P w= .ok (if h:vs.toArray.size=1 then vs.toArray[0]else .tuple vs.toArray) w:=by
   rw[zfC,Sem.run_bind,hm];rfl
  refine⟨_,rC,?_⟩
  match l,aY,ag,ae,au with
  |[x],_,ag,ae,au=>
   injection ag with ag
   subst ag
   have wE:vs.toArray.size=1:=by simpa using ae
   rw[dif_pos wE]
   have:=au 0 x rfl
   have Ef:0<vs.length:=by simp at wE;omega
   simpa[List.getD,Ef]using this
  |[],_,ag,ae,au=>
   injection ag with ag
   subst ag
   have:vs=[]:=List.eq_nil_of_length_eq_zero (by simpa using ae)
   subst this;exact .tuple _ _ rfl (by simp)
  |x::y::h7,_,ag,ae,au=>
   injection ag with ag
   subst ag;rw[dif_neg (by simp at ae⊢;omega)]
   refine .tuple _ _ (by simpa using ae) fun j z af=>?_
   have:=au j z af
   simpa[List.getD,Array.getD_eq_getD_getElem?]using this
theorem dN.RU{f:FuncId}{fn:Func}{c:Code}{args:List aD}{σ:Heap}{n k:Nat}{Q:aD→Heap→Prop}(hf:P.funcs[f]? =some fn)(ad:fn.body=some c)(aj:fn.ntmps-args.length=k)
 (h:b7 P G c (zfB P fn Q) ⟨args++List.replicate k .top,σ,n,n⟩):dN P G f args σ n Q:=by
 intro w β ro ei bV h8 a6 ah bM
 refine calls_of_wp hf ad (wp_mono (h ⟨w,ro,σ,β,n⟩ _ w ⟨β,ro,rfl,?_,?_,a6,ah,?_,Nat.le_refl _⟩) ?_)
 ·simp[bV,aj]
 ·intro i x hi
  simp only at hi
  by_cases LB:i<args.length
  ·rw[List.getElem?_append_left LB]at hi
   have:=h8 i x hi
   have aa:i<ei.size:=by omega
   simpa[Array.getElem?_append_left aa,aa,Array.getElem_append_left aa]using this
  ·rw[List.getElem?_append_right (by omega)]at hi
   rw[List.getElem?_replicate]at hi
   split at hi
   ·simp only[Option.some.injEq]at hi;subst hi;exact .top _
   ·cases hi
 ·exact⟨rfl,rfl,rfl,Nat.le_refl _,fun _ _ _=>rfl,fun _ h=>.inl h,fun _ h=>h,fun _ h=>.inl h,fun id _ o ao=>⟨by rw[ao];simp,rfl⟩,bM,Nat.le_refl _⟩
 ·intro e bg w' ⟨bF,aK,dU,ro',ag⟩
  obtain⟨he,r,eZ,rC,gE,ez⟩:=aK;obtain⟨v,ax,dG⟩:=zfD ag rC
  rcases he with rfl|rfl
  ·exact⟨ag.defers,v,ax,v,r,eZ,dU,ro',bF.next,rfl,ez,dG.sub gE,ag.heap.sub gE,ag.trans.sub gE⟩
  ·exact⟨ag.defers,v,ax,v,r,eZ,dU,ro',bF.next,rfl,ez,dG.sub gE,ag.heap.sub gE,ag.trans.sub gE⟩
end
end Go.aN
namespace Go.aN
open Go
mutual
def gF(n:Nat):aD→Bool
 | .av _=>true
 | .agg cs=>k9 n cs
 | .tuple cs=>k9 n cs
 | .ptr id _=>decide (id<n)
 | .dF id _=>decide (id<n)
 | .c5 id _ _=>decide (id<n)
 | .aP id=>decide (id<n)
 | .fn _ p q=>k9 n p&&k9 n q
 | .ref id=>decide (id<n)
 | .top=>true
def k9(n:Nat):List aD→Bool
 |[]=>true
 |x::r=>gF n x&&k9 n r
end
theorem rD{n:Nat}: ∀{cs:List aD},k9 n cs=true→∀{j:Nat} {x:aD},cs[j]? =some x→gF n x=true
 |[],_,j,x,h=>by simp at h
 |y::r,ad,j,x,h=>by
  simp only[k9,Bool.and_eq_true]at ad
  cases j with
  |zero=>simp at h;subst h;exact ad.1
  |succ j=>simp at h;exact rD ad.2 h
theorem bG.lower{w:World}{ro:Nat→Prop}{σ:Heap}{β:Nat→Value}{N o1:Nat}{x:aD}{c:Value}(h:bG w ro σ β N x c)(ad:gF o1 x=true):bG w ro σ β o1 x c:=by
 induction h with
 |av x c hx=>exact .av x c hx
 |agg cs c ai _ aZ=>
  simp only[gF]at ad;exact .agg cs c ai fun j x af=>aZ j x af (rD ad af)
 |tuple cs c ai _ aZ=>
  simp only[gF]at ad;exact .tuple cs c ai fun j x af=>aZ j x af (rD ad af)
 |ptr id off c aq ak=>exact .ptr id off c (by simpa[gF]using ad) ak
 |dF id off c aq ak=>exact .dF id off c (by simpa[gF]using ad) ak
 |c5 id i off c aq ak=>exact .c5 id i off c (by simpa[gF]using ad) ak
 |aP id c aq ak=>exact .aP id c (by simpa[gF]using ad) ak
 |fn f p q c d aa ae _ _ hq hr=>
  simp only[gF,Bool.and_eq_true]at ad;exact .fn f p q c d aa ae (fun j x af=>hq j x af (rD ad.1 af)) (fun j x af=>hr j x af (rD ad.2 af))
 |ref id c aq ak=>exact .ref id c (by simpa[gF]using ad) ak
 |top c=>exact .top c
def xl(σ:Heap):List Nat→Heap
 |[]=>[]
 |id::r=>match aE σ id with
  |some o=>(id,o)::xl σ r
  |none=>xl σ r
theorem LC(σ:Heap): ∀(ids:List Nat) (id:Nat) (o:ew),aE (xl σ ids) id=some o→aE σ id=some o
 |[],id,o,h=>by simp[xl,aE]at h
 |k::r,id,o,h=>by
  simp only[xl]at h
  cases aj:aE σ k with
  |none=>rw[aj]at h;exact LC σ r id o h
  |some p=>
   rw[aj]at h;simp only[aE]at h
   split at h
   ·rename_i he
    subst he;rw[aj];exact h
   ·exact LC σ r id o h
def la(n:Nat):Heap→Bool
 |[]=>true
 |(id,.box _ cs)::r=>decide (id<n)&&k9 n cs&&la n r
 |(id,.row _ _ _ _)::r=>decide (id<n)&&la n r
 |(id,.bU _)::r=>decide (id<n)&&la n r
theorem rE{n:Nat}: ∀{σ:Heap},la n σ=true→∀{id:Nat} {o:ew},aE σ id=some o→id<n∧∀t cs,o= .box t cs→k9 n cs=true
 |[],_,id,o,h=>by simp[aE]at h
 |(k,.box t cs)::r,ad,id,o,h=>by
  simp only[la,Bool.and_eq_true,decide_eq_true_eq]at ad;simp only[aE]at h
  split at h
  ·rename_i he
   subst he;simp only[Option.some.injEq]at h;subst h;exact⟨ad.1.1,fun bL cs' he=>by cases he;exact ad.1.2⟩
  ·exact rE ad.2 h
 |(k,.row z t m es)::r,ad,id,o,h=>by
  simp only[la,Bool.and_eq_true,decide_eq_true_eq]at ad;simp only[aE]at h
  split at h
  ·rename_i he
   subst he;simp only[Option.some.injEq]at h;subst h;exact⟨ad.1,fun bL cs' he=>by cases he⟩
  ·exact rE ad.2 h
 |(k,.bU bW)::r,ad,id,o,h=>by
  simp only[la,Bool.and_eq_true,decide_eq_true_eq]at ad;simp only[aE]at h
  split at h
  ·rename_i he
   subst he;simp only[Option.some.injEq]at h;subst h;exact⟨ad.1,fun bL cs' he=>by cases he⟩
  ·exact rE ad.2 h
mutual
def hQ(σ:Heap):aD→aD
 | .aP id=>match aE σ id with
  |some (.row true _ n es)=>.av (.aP n es)
  |_=>.aP id
 | .agg cs=>.agg (kJ σ cs)
 | .tuple cs=>.tuple (kJ σ cs)
 | .fn f p q=>.fn f (kJ σ p) (kJ σ q)
 | .av x=>.av x
 | .ptr id off=>.ptr id off
 | .dF id off=>.dF id off
 | .c5 id i off=>.c5 id i off
 | .ref id=>.ref id
 | .top=>.top
def kJ(σ:Heap):List aD→List aD
 |[]=>[]
 |x::r=>hQ σ x::kJ σ r
end
theorem n4(σ:Heap): ∀(l:List aD),(kJ σ l).length=l.length
 |[]=>rfl
 |x::r=>by simp[kJ,n4 σ r]
theorem o8(σ:Heap): ∀{l:List aD} {j:Nat} {x:aD},(kJ σ l)[j]? =some x→∃y,l[j]? =some y∧x=hQ σ y
 |[],j,x,h=>by simp[kJ]at h
 |y::r,j,x,h=>by
  cases j with
  |zero=>simp[kJ]at h;exact⟨y,by simp,h.symm⟩
  |succ j=>simp[kJ]at h;simpa using o8 σ h
theorem zfE{w:World}{ro:Nat→Prop}{σ:Heap}{β:Nat→Value}{N:Nat}(a6:ho w ro σ β N){x:aD}{c:Value}(h:bG w ro σ β N x c):bG w ro σ β N (hQ σ x) c:=by
 induction h with
 |aP id c aq ak=>
  simp only[hQ]
  split
  ·rename_i t n es ah
   rw[ak true t n es ah]
   have:=a6.dh id _ ah
   cases this with
   |gf _ _ _ aa=>exact .av _ _ aa
  ·exact .aP id c aq ak
 |av x c h=>exact .av x c h
 |agg cs c aa _ aZ=>
  refine .agg _ c (by rw[n4];exact aa) fun j x af=>?_
  obtain⟨y,ay,rfl⟩:=o8 σ af;exact aZ j y ay
 |tuple cs c aa _ aZ=>
  refine .tuple _ c (by rw[n4];exact aa) fun j x af=>?_
  obtain⟨y,ay,rfl⟩:=o8 σ af;exact aZ j y ay
 |ptr id off c aa ae=>exact .ptr id off c aa ae
 |dF id off c aa ae=>exact .dF id off c aa ae
 |c5 id i off c aa ae=>exact .c5 id i off c aa ae
 |fn f p q c d aa ae _ _ hq hr=>
  refine .fn f _ _ c d (by rw[n4];exact aa) (by rw[n4];exact ae) (fun j x af=>?_) (fun j x af=>?_)
  ·obtain⟨y,ay,rfl⟩:=o8 σ af
   exact hq j y ay
  ·obtain⟨y,ay,rfl⟩:=o8 σ af
   exact hr j y ay
 |ref id c aa ae=>exact .ref id c aa ae
 |top c=>exact .top c
mutual
def fJ:aD→Bool
 | .av _=>true
 | .agg cs=>e7 cs
 | .tuple cs=>e7 cs
 | .fn _ p q=>e7 p&&e7 q
 | .top=>true
 | .ptr _ _=>false
 | .dF _ _=>false
 | .c5 _ _ _=>false
 | .aP _=>false
 | .ref _=>false
def e7:List aD→Bool
 |[]=>true
 |x::r=>fJ x&&e7 r
end
theorem nc: ∀{cs:List aD},e7 cs=true→∀{j:Nat} {x:aD},cs[j]? =some x→fJ x=true
 |[],_,j,x,h=>by simp at h
 |y::r,ad,j,x,h=>by
  simp only[e7,Bool.and_eq_true]at ad
  cases j with
  |zero=>simp at h;subst h;exact ad.1
  |succ j=>simp at h;exact nc ad.2 h
theorem Eg(l:List ba):e7 (l.map .av)=true:=by
 induction l with
 |nil=>rfl
 |cons x r aZ=>simp[e7,fJ,aZ]
theorem n5{w:World}{ro:Nat→Prop}{σ b0:Heap}{β AJ:Nat→Value}{N M:Nat}{x:aD}{c:Value}(h:bG w ro σ β N x c)(ak:fJ x=true):bG w ro b0 AJ M x c:=by
 induction h with
 |av x c h=>exact .av x c h
 |agg cs c aa _ aZ=>
  simp only[fJ]at ak;exact .agg cs c aa fun j x af=>aZ j x af (nc ak af)
 |tuple cs c aa _ aZ=>
  simp only[fJ]at ak;exact .tuple cs c aa fun j x af=>aZ j x af (nc ak af)
 |fn f p q c d aa ae _ _ hq hr=>
  simp only[fJ,Bool.and_eq_true]at ak;exact .fn f p q c d aa ae (fun j x af=>hq j x af (nc ak.1 af)) (fun j x af=>hr j x af (nc ak.2 af))
 |top c=>exact .top c
 |ptr=>simp[fJ]at ak
 |dF=>simp[fJ]at ak
 |c5=>simp[fJ]at ak
 |aP=>simp[fJ]at ak
 |ref=>simp[fJ]at ak
mutual
def qm(d:Nat):aD→aD
 | .av x=>.av x
 | .agg cs=>.agg (lN d cs)
 | .tuple cs=>.tuple (lN d cs)
 | .ptr id off=>.ptr (d+id) off
 | .dF id off=>.dF (d+id) off
 | .c5 id i off=>.c5 (d+id) i off
 | .aP id=>.aP (d+id)
 | .fn f p q=>.fn f (lN d p) (lN d q)
 | .ref id=>.ref (d+id)
 | .top=>.top
def lN(d:Nat):List aD→List aD
 |[]=>[]
 |x::r=>qm d x::lN d r
end
def lb(d:Nat):Heap→Heap
 |[]=>[]
 |(id,.box t cs)::r=>(d+id,.box t (lN d cs))::lb d r
 |(id,.row z t n es)::r=>(d+id,.row z t n es)::lb d r
 |(id,.bU bW)::r=>(d+id,.bU bW)::lb d r
def kK(d:Nat):ew→ew
 | .box t cs=>.box t (lN d cs)
 | .row z t n es=>.row z t n es
 | .bU bW=>.bU bW
theorem xm(d:Nat): ∀(l:List aD),(lN d l).length=l.length
 |[]=>rfl
 |x::r=>by simp[lN,xm d r]
theorem xn(d:Nat): ∀{l:List aD} {j:Nat} {x:aD},(lN d l)[j]? =some x→∃y,l[j]? =some y∧x=qm d y
 |[],j,x,h=>by simp[lN]at h
 |y::r,j,x,h=>by
  cases j with
  |zero=>simp[lN]at h;exact⟨y,by simp,h.symm⟩
  |succ j=>simp[lN]at h;simpa using xn d h
theorem SY(σ b0:Heap)(id:Nat):aE (σ++b0) id=(aE σ id).or (aE b0 id):=by
 induction σ with
 |nil=>simp[aE]
 |cons p r aZ=>
  obtain⟨k,o⟩:=p;simp only[List.cons_append,aE]
  split
  ·simp
  ·exact aZ
theorem AK(d:Nat): ∀(σ:Heap) (id:Nat),aE (lb d σ) id=if d≤id then(aE σ (id-d)).map (kK d)else none
 |[],id=>by simp[lb,aE]
 |(k,.box t cs)::r,id=>by
  simp only[lb,aE,AK d r]
  by_cases aa:d+k=id
  ·have ae:d≤id:=by omega
   have au:k=id-d:=by omega
   simp[ae,au,kK]
  ·by_cases ae:d≤id
   ·have au: ¬k=id-d:=by omega
    simp[aa,ae,au]
   ·simp[aa,ae]
 |(k,.row z t n es)::r,id=>by
  simp only[lb,aE,AK d r]
  by_cases aa:d+k=id
  ·have ae:d≤id:=by omega
   have au:k=id-d:=by omega
   simp[ae,au,kK]
  ·by_cases ae:d≤id
   ·have au: ¬k=id-d:=by omega
    simp[aa,ae,au]
   ·simp[aa,ae]
 |(k,.bU bW)::r,id=>by
  simp only[lb,aE,AK d r]
  by_cases aa:d+k=id
  ·have ae:d≤id:=by omega
   have au:k=id-d:=by omega
   simp[ae,au,kK]
  ·by_cases ae:d≤id
   ·have au: ¬k=id-d:=by omega
    simp[aa,ae,au]
   ·simp[aa,ae]
theorem bG.shift{w:World}{ro ro':Nat→Prop}{σ b0:Heap}{β AJ:Nat→Value}{N M:Nat}{x:aD}{c:Value}(h:bG w ro σ β N x c)(cm: ∀b,ro b→ro' b)
 (LD: ∀id o,aE b0 id=some o→id<M):
 bG w ro' (lb M σ++b0) (fun k=>if M≤k then β (k-M)else AJ k) (M+N) (qm M x) c:=by
 have key: ∀id,aE (lb M σ++b0) (M+id)=(aE σ id).map (kK M):=by
  intro id;rw[SY,AK]
  have aa:M≤M+id:=by omega
  simp only[aa,if_true,Nat.add_sub_cancel_left]
  cases ai:aE σ id with
  |some o=>simp
  |none=>
   simp
   cases aH:aE b0 (M+id)with
   |none=>rfl
   |some o=>have:=LD _ _ aH;omega
 induction h with
 |av x c hx=>exact .av x c (hx.keep (fun _ _=>rfl) cm)
 |agg cs c ai _ aZ=>
  refine .agg _ c (by rw[xm];exact ai) fun j x af=>?_
  obtain⟨y,ay,rfl⟩:=xn M af;exact aZ j y ay
 |tuple cs c ai _ aZ=>
  refine .tuple _ c (by rw[xm];exact ai) fun j x af=>?_
  obtain⟨y,ay,rfl⟩:=xn M af;exact aZ j y ay
 |ptr id off c aq ak=>
  refine .ptr _ off c (by omega) fun t cs ah=>?_
  rw[key]at ah;simp only[Nat.le_add_right,if_true,Nat.add_sub_cancel_left]
  cases ai:aE σ id with
  |none=>simp[ai]at ah
  |some o=>
   cases o with
   |box bL cs'=>exact ak bL cs' ai
   |row=>simp[ai,kK]at ah
   |bU=>simp[ai,kK]at ah
 |dF id off c aq ak=>
  refine .dF _ off c (by omega) fun t cs ah=>?_
  rw[key]at ah;simp only[Nat.le_add_right,if_true,Nat.add_sub_cancel_left]
  cases ai:aE σ id with
  |none=>simp[ai]at ah
  |some o=>
   cases o with
   |box bL cs'=>exact ak bL cs' ai
   |row=>simp[ai,kK]at ah
   |bU=>simp[ai,kK]at ah
 |c5 id i off c aq ak=>
  refine .c5 _ i off c (by omega) fun z t n es ah=>?_
  rw[key]at ah;simp only[Nat.le_add_right,if_true,Nat.add_sub_cancel_left]
  cases ai:aE σ id with
  |none=>simp[ai]at ah
  |some o=>
   cases o with
   |box bL cs'=>simp[ai,kK]at ah
   |bU=>simp[ai,kK]at ah
   |row iE bL cS dX=>
    simp only[ai,Option.map_some,kK,Option.some.injEq,ew.row.injEq]at ah;obtain⟨rfl,rfl,rfl,rfl⟩:=ah;exact ak _ _ _ _ ai
 |aP id c aq ak=>
  refine .aP _ c (by omega) fun z t n es ah=>?_
  rw[key]at ah;simp only[Nat.le_add_right,if_true,Nat.add_sub_cancel_left]
  cases ai:aE σ id with
  |none=>simp[ai]at ah
  |some o=>
   cases o with
   |box bL cs'=>simp[ai,kK]at ah
   |bU=>simp[ai,kK]at ah
   |row iE bL cS dX=>exact ak _ _ _ _ ai
 |fn f p q c d aa ae _ _ hq hr=>
  refine .fn f _ _ c d (by rw[xm];exact aa) (by rw[xm];exact ae) (fun j x af=>?_) (fun j x af=>?_)
  ·obtain⟨y,ay,rfl⟩:=xn M af
   exact hq j y ay
  ·obtain⟨y,ay,rfl⟩:=xn M af
   exact hr j y ay
 |ref id c aq ak=>
  refine .ref _ c (by omega) fun bW ah=>?_
  rw[key]at ah;simp only[Nat.le_add_right,if_true,Nat.add_sub_cancel_left]
  cases ai:aE σ id with
  |none=>simp[ai]at ah
  |some o=>
   cases o with
   |box=>simp[ai,kK]at ah
   |row=>simp[ai,kK]at ah
   |bU lL=>exact ak lL ai
 |top c=>exact .top c
def nd(P:Program)(f:FuncId):Bool:=
 match P.funcs[f]? with
 |some fn=>!(fn.name== "runtime.NumGoroutine")&&fn.body.isSome
 |none=>false
theorem Eh{P:Program}{f:FuncId}(h:nd P f=true)(args:Array Value)(w:World):(callFunc f args).run P w= .ok (.enter f args) w:=by
 unfold nd at h
 split at h
 ·rename_i fn hf
  simp only[Bool.and_eq_true,Bool.not_eq_true']at h
  have ae:fn.body≠none:=by intro e;simp[e]at h
  have au:fn.name≠ "runtime.NumGoroutine" :=by simpa using h.1
  simp[callFunc,hf,ae,au]
 ·cases h
section
variable {P:Program} {G:bc} {s:aQ} {Q:Exit→aQ→Prop}
theorem mo.call{o:Oper}{x:Operand}{xs:Array Operand}{ts:Array TypeId}(ao:o.op= .call {callee:=.value x,args:=xs,argTypes:=ts}){f:FuncId}(hx:aL G s x= .fn (.func f) [] [])
 (gG:nd P f=true){args:List aD}(h8:xs.toList.map (fun y=>hQ s.heap (aL G s y))=args)(o9:e7 args=true){R:aD→Heap→Prop}(hc:dN P G f args [] 0 R){K:Nat}{r:aD}{b0:Heap}
 (fl: ∀eY fK,R eY fK→eY=r∧fK=b0)(LF:gF K r=true)(Ei:la K b0=true)(ad:s.base≤s.next):
 mo P G o s ({s with heap:=lb s.next b0++s.heap,next:=s.next+K}.put o.dst (qm s.next r)):=by
 intro E a w ⟨β,ro,h⟩ zfF zfG LG
 have lO:=h.eval x
 rw[hx]at lO
 generalize he:a.eval x=LH at lO
 cases lO with
 |fn _ _ _ c d aa ae _ _=>
  have hI:c= #[]:=by simpa using aa
  have oE:d= #[]:=by simpa using ae
  subst hI oE;unfold Oper.wp;simp only[execOp,ao,resolve,he,Deferred.ofValue,Sem.run_bind,Sem.run_pure,Result.andThen_ok,invoke,Array.empty_append,Array.append_empty];rw[Eh gG]
  have hlen:xs.toList.length=args.length:=by have:=congrArg List.length h8;simpa using this
  have hs:=hc w β ro (xs.map a.eval) (by simpa using hlen) (fun i y ay=>by
   have hi:(xs.toList.map (fun y=>hQ s.heap (aL G s y)))[i]? =some y:=by rw[h8];exact ay
   rw[List.getElem?_map]at hi
   cases LI:xs.toList[i]? with
   |none=>simp[LI]at hi
   |some z=>
    simp[LI]at hi
    have ax:=zfE h.heap (h.eval z)
    rw[hi]at ax
    have zfH:xs[i]? =some z:=by simpa using LI
    have ea:(xs.map a.eval).getD i undef=a.eval z:=by simp[zfH]
    rw[ea]
    exact n5 ax (nc o9 ay)) ⟨by simp[aE],by simp[aE],fun b _ ⟨_,_,ah,_⟩=>by simp[aE]at ah,h.heap.lt⟩ h.ik (by simp[aE])
  refine Calls.mono hs fun e w' aK=>?_
  obtain⟨v,eY,fK,dU,ro',cS,rfl,zfI,dG,hR,cN⟩:=aK;obtain⟨rfl,rfl⟩:=fl eY fK zfI
  have ld: ∀b,¬Own ([]:Heap) β b:=fun b ⟨_,_,ah,_⟩=>by simp[aE]at ah
  have lP: ∀b,b<w.heap.size→w'.heap[b]? =w.heap[b]? :=fun b ad=>cN.frame b ad (ld b)
  have rF:=dG.lower LF
  have fh:=h.heap
  have LJ:=fun id o ah=>h.trans.new id o ah
  have cm: ∀b,ro b→w'.heap[b]? =w.heap[b]? :=fun b ad=>lP b (h.heap.lt b ad)
  have n2: ∀k p b,aE s.heap k=some p→p.live=true→cb (β k)=some b→b<w.heap.size:=fun k p b aj ak bk=>(h.heap.dh k p aj).hO ak bk
  have Ej: ∀k p b,aE fK k=some p→p.live=true→cb (dU k)=some b→w.heap.size≤b:=by
   intro k p b aj ak bk
   rcases cN.hp b ⟨k,p,aj,ak,bk⟩with hc|hc
   ·exact absurd hc (ld b)
   ·exact hc

  have look: ∀id,aE (lb s.next fK++s.heap) id=if s.next≤id then(aE fK (id-s.next)).map (kK s.next)else aE s.heap id:=by
   intro id;rw[SY,AK]
   by_cases hi:s.next≤id
   ·simp only[hi,if_true]
    cases ai:aE fK (id-s.next)with
    |some p=>simp
    |none=>
     simp
     cases aH:aE s.heap id with
     |none=>rfl
     |some p=>have:=LJ _ _ aH;omega
   ·simp[hi]
  have up: ∀x c,bG w ro s.heap β s.next x c→bG w' (fun b=>ro b∨ro' b) (lb s.next fK++s.heap) (fun k=>if s.next≤k then dU (k-s.next)else β k) (s.next+K) x c:=by
   intro x c hx
   induction hx with
   |av x c hx=>exact .av x c (hx.keep cm fun _ h=>.inl h)
   |agg cs c ai _ aZ=>exact .agg cs c ai aZ
   |tuple cs c ai _ aZ=>exact .tuple cs c ai aZ
   |ptr k off c aq ak=>
    have aj: ¬s.next≤k:=by omega
    exact .ptr k off c (by omega) fun t cs bz=>by rw[look,if_neg aj]at bz;simp only[aj,if_false];exact ak t cs bz
   |dF k off c aq ak=>
    have aj: ¬s.next≤k:=by omega
    exact .dF k off c (by omega) fun t cs bz=>by rw[look,if_neg aj]at bz;simp only[aj,if_false];exact ak t cs bz
   |c5 k i off c aq ak=>
    have aj: ¬s.next≤k:=by omega
    exact .c5 k i off c (by omega) fun z t n es bz=>by rw[look,if_neg aj]at bz;simp only[aj,if_false];exact ak z t n es bz
   |aP k c aq ak=>
    have aj: ¬s.next≤k:=by omega
    exact .aP k c (by omega) fun z t n es bz=>by rw[look,if_neg aj]at bz;simp only[aj,if_false];exact ak z t n es bz
   |fn f p q c d aa ae _ _ hq hr=>exact .fn f p q c d aa ae hq hr
   |ref k c aq ak=>
    have aj: ¬s.next≤k:=by omega
    exact .ref k c (by omega) fun bW bz=>by rw[look,if_neg aj]at bz;simp only[aj,if_false];exact ak bW bz
   |top c=>exact .top c
  have SZ: ∀b,ro' b→ro b∨w.heap.size≤b:=fun b ad=>by
   rcases cN.jo b ad with h|h|h
   ·exact .inl h
   ·exact absurd h (ld b)
   ·exact .inr h
  refine LG _ _ ⟨fun k=>if s.next≤k then dU (k-s.next)else β k,fun b=>ro b∨ro' b,dc.put (s:={s with heap:=lb s.next fK++s.heap,next:=s.next+K}) ⟨h.defers,h.size,fun i x hx=>up _ _ (h.slot i x hx),⟨fun id p ah=>?_,?_,?_,?_⟩,?_,?_,h.base⟩ o.dst _ _ ?_⟩ lP
  ·simp only[look]at ah
   by_cases hi:s.next≤id
   ·simp only[hi,if_true]at ah
    cases ai:aE fK (id-s.next)with
    |none=>simp[ai]at ah
    |some q=>
     simp[ai]at ah;subst ah;obtain⟨_,AL⟩:=rE Ei ai
     have gP:=hR.dh _ q ai
     cases gP with
     |box t cs b arr aB bl cx eR=>
      refine .box t _ b arr (by simp[hi,aB]) bl (by rw[xm];exact cx) fun j x af=>?_
      obtain⟨y,ay,rfl⟩:=xn s.next af;exact bG.shift ((eR j y ay).lower (rD (AL t cs rfl) ay)) (fun _ h=>.inr h) LJ
     |row t n es xs aB bl cx=>exact .row t n es xs (by simp only[hi,if_true];exact aB) bl fun j x af=>(cx j x af).keep (fun _ _=>rfl) fun _ h=>.inr h
     |gf t n es aB=>exact .gf t n es (by simp only[hi,if_true];exact aB.keep (fun _ _=>rfl) fun _ h=>.inr h)
     |bU bW b o aB bl cx=>exact .bU bW b o (by simp only[hi,if_true];exact aB) bl (by simp only[hi,if_true];exact bW.mono _ _ _ _ (fun x c h=>h.keep (fun _ _=>rfl) fun _ h=>.inr h) cx)
   ·simp only[hi,if_false]at ah
    have gP:=h.heap.dh id p ah
    cases gP with
    |box t cs b arr aB bl cx eR=>
     have hP:=n2 id _ b ah rfl (by rw[aB];rfl)
     exact .box t cs b arr (by simp only[hi,if_false];exact aB) ((lP b hP).trans bl) cx fun j x af=>up _ _ (eR j x af)
    |row t n es xs aB bl cx=>
     exact .row t n es xs (by simp only[hi,if_false];exact aB.keep (fun b ad=>lP b (aB.hO ad).1) cN.size) bl fun j x af=>(cx j x af).keep cm fun _ h=>.inl h
    |gf t n es aB=>exact .gf t n es (by simp only[hi,if_false];exact aB.keep cm fun _ h=>.inl h)
    |bU bW b o aB bl cx=>exact .bU bW b o (by simp only[hi,if_false];exact aB) ((lP b (Array.getElem?_eq_some_iff.1 bl).1).trans bl) (by simp only[hi,if_false];exact bW.mono _ _ _ _ (fun x c h=>h.keep cm fun _ h=>.inl h) cx)
  ·intro id gv p fZ b ah ec ak gO bk eC
   rw[look]at ah ec
   by_cases hi:s.next≤id
   ·simp only[hi,if_true]at ah bk
    cases ai:aE fK (id-s.next)with
    |none=>simp[ai]at ah
    |some q=>
     have ru:q.live=true:=by simp[ai]at ah;subst ah;cases q<;>first|rfl|exact ak
     have h1:=Ej _ q b ai ru bk
     by_cases ht:s.next≤gv
     ·simp only[ht,if_true]at ec eC
      cases e1:aE fK (gv-s.next)with
      |none=>simp[e1]at ec
      |some q'=>
       have Az:q'.live=true:=by simp[e1]at ec;subst ec;cases q'<;>first|rfl|exact gO
       have:=hR.inj _ _ q q' b ai e1 ru Az bk eC
       omega
     ·simp only[ht,if_false]at ec eC
      have:=n2 gv fZ b ec gO eC
      omega
   ·simp only[hi,if_false]at ah bk
    have LK:=n2 id p b ah ak bk
    by_cases ht:s.next≤gv
    ·simp only[ht,if_true]at ec eC
     cases e1:aE fK (gv-s.next)with
     |none=>simp[e1]at ec
     |some q'=>
      have Az:q'.live=true:=by simp[e1]at ec;subst ec;cases q'<;>first|rfl|exact gO
      have h1:=Ej _ q' b e1 Az eC
      omega
    ·simp only[ht,if_false]at ec eC
     exact h.heap.inj id gv p fZ b ah ec ak gO bk eC
  ·rintro b ad ⟨id,p,ah,ak,bk⟩
   rw[look]at ah
   by_cases hi:s.next≤id
   ·simp only[hi,if_true]at ah bk
    cases ai:aE fK (id-s.next)with
    |none=>simp[ai]at ah
    |some q=>
     have ru:q.live=true:=by simp[ai]at ah;subst ah;cases q<;>first|rfl|exact ak
     have h1:=Ej _ q b ai ru bk
     rcases ad with ad|ad
     ·have:=h.heap.lt b ad;omega
     ·exact hR.fo b ad ⟨_,q,ai,ru,bk⟩
   ·simp only[hi,if_false]at ah bk
    have LK:=n2 id p b ah ak bk
    rcases ad with ad|ad
    ·exact h.heap.fo b ad ⟨id,p,ah,ak,bk⟩
    ·rcases SZ b ad with hc|hc
     ·exact h.heap.fo b hc ⟨id,p,ah,ak,bk⟩
     ·omega
  ·intro b ad
   rcases ad with ad|ad
   ·exact Nat.lt_of_lt_of_le (h.heap.lt b ad) cN.size
   ·exact hR.lt b ad
  ·exact h.ik.keep cm fun _ h=>.inl h
  ·have t:=h.trans
   refine⟨cN.os.trans t.os,cN.tape.trans t.tape,cN.output.trans t.output,Nat.le_trans t.size cN.size,fun b hP gh=>(lP b (Nat.lt_of_lt_of_le hP t.size)).trans (t.frame b hP gh),?_,fun b ad=>.inl (t.j9 b ad),?_,?_,?_,?_⟩
   ·intro b ad
    rcases ad with ad|ad
    ·exact t.jo b ad
    ·rcases SZ b ad with hc|hc
     ·exact t.jo b hc
     ·exact .inr (.inr (Nat.le_trans t.size hc))
   ·rintro b ⟨id,p,ah,ak,bk⟩
    rw[look]at ah
    by_cases hi:s.next≤id
    ·simp only[hi,if_true]at ah bk
     cases ai:aE fK (id-s.next)with
     |none=>simp[ai]at ah
     |some q=>
      have ru:q.live=true:=by simp[ai]at ah;subst ah;cases q<;>first|rfl|exact ak
      exact .inr (Nat.le_trans t.size (Ej _ q b ai ru bk))
    ·simp only[hi,if_false]at ah bk
     exact t.hp b ⟨id,p,ah,ak,bk⟩
   ·intro id bj p ah
    have aa:=h.base
    have hi: ¬s.next≤id:=by omega
    rw[look,if_neg hi]at ah;simp only[hi,if_false];exact t.dT id bj p ah
   ·intro id p ah
    simp only[look]at ah
    by_cases hi:s.next≤id
    ·simp only[hi,if_true]at ah
     cases ai:aE fK (id-s.next)with
     |none=>simp[ai]at ah
     |some q=>
      have:=(rE Ei ai).1
      show id<s.next+K;omega
    ·show id<s.next+K
     omega
   ·have:=h.base
    show E.n≤s.next+K;omega
  ·exact bG.shift rF (fun _ h=>.inr h) LJ
theorem dY.call{o:Oper}{x:Operand}{xs:Array Operand}{ts:Array TypeId}(ao:o.op= .call {callee:=.value x,args:=xs,argTypes:=ts}){f:FuncId}(hx:aL G s x= .fn (.func f) [] [])
 (gG:nd P f=true){args:List aD}(h8:xs.toList.map (fun y=>hQ s.heap (aL G s y))=args)(o9:e7 args=true){R:aD→Heap→Prop}(hc:dN P G f args [] 0 R){K:Nat}{r:aD}{b0:Heap}
 (fl: ∀eY fK,R eY fK→eY=r∧fK=b0)(LF:gF K r=true)(Ei:la K b0=true)(ad:s.base≤s.next):
 dY P G o s ({s with heap:=lb s.next b0++s.heap,next:=s.next+K}.put o.dst (qm s.next r)):=(mo.call ao hx gG h8 o9 hc fl LF Ei ad).op
end
end Go.aN
namespace Go.aN
open Go
section
variable {P:Program} {G:bc} {o:Oper} {s:aQ}
theorem cZ.S1{w:World}{ro:Nat→Prop}{n:Nat}{es:List (List ba)}{c:Value}(h:cZ w ro (.aP n es) c): ∃b cap,c= .slice b es.length cap:=by
 cases h with
 |aP _ _ b cap=>exact⟨b,cap,rfl⟩
def lf(σ:Heap):aD→Option Nat
 | .av (.aP _ es)=>some es.length
 | .av (.v (.slice none 0 0))=>some 0
 | .aP id=>match aE σ id with
  |some (.row _ _ _ es)=>some es.length
  |_=>none
 |_=>none
theorem zfJ{w:World}{ro:Nat→Prop}{σ:Heap}{β:Nat→Value}{N:Nat}(a6:ho w ro σ β N){x:aD}{c:Value}(h:bG w ro σ β N x c){m:Nat}(hm:lf σ x=some m): ∃b cap,c= .slice b m cap:=by
 cases h with
 |av x c hx=>
  cases hx with
  |v _ aa=>
   cases c with
   |slice a l h6=>
    cases a with
    |none=>
     cases l with
     |zero=>
      cases h6 with
      |zero=>simp[lf]at hm;subst hm;exact⟨_,_,rfl⟩
      |succ=>simp[lf]at hm
     |succ=>simp[lf]at hm
    |some=>simp[lf]at hm
   |_=>simp[lf]at hm
  |ptr=>simp[lf]at hm
  |mp=>simp[lf]at hm
  |eB=>simp[lf]at hm
  |li=>simp[lf]at hm
  |aP n es b cap c aa ae au aR bN=>
   simp only[lf,Option.some.injEq]at hm;subst hm;exact⟨b,cap,rfl⟩
 |aP id c aq ak=>
  simp only[lf]at hm
  split at hm
  ·rename_i z t n es ah
   simp only[Option.some.injEq]at hm;subst hm;rw[ak z t n es ah]
   have:=a6.dh id _ ah
   cases this with
   |row _ _ _ xs aa=>
    rcases aa.2 with⟨⟨_,ax,_⟩,aT⟩|⟨g,cap,cur,ax,_⟩
    ·rw[ax,aT];exact⟨_,_,rfl⟩
    ·rw[ax];exact⟨_,_,rfl⟩
   |gf _ _ _ aa=>exact aa.S1
  ·cases hm
 |_=>simp[lf]at hm
def isSlice(P:Program)(t:TypeId):Bool:=
 match P.underlying t with
 |some (.slice _)=>true
 |_=>false
theorem LL(x:Operand)(t:TypeId)(ao:o.op= .call {callee:=.builtin .len,args:=#[x],argTypes:=#[t]})(aH:isSlice P t=true){m:Nat}(hm:lf s.heap (aL G s x)=some m):
 cY P G o s (.av (.v (.int .i64 (m:Int)))):=
 fun _ a w β ro ag=>by
  obtain⟨b,cap,hc⟩:=zfJ ag.heap (ag.eval x) hm;unfold isSlice at aH
  split at aH
  ·rename_i e hu
   refine⟨.int .i64 m,?_,.fI rfl⟩
   simp[execOp,ao,resolve,invoke,builtin,hc,Builtin.len_,run_underlying hu,goInt]
  ·cases aH
theorem LM(x:Operand)(t:TypeId)(ao:o.op= .call {callee:=.builtin .len,args:=#[x],argTypes:=#[t]})(aH:P.underlying t=some .string){b:ByteArray}(hx:aL G s x= .av (.v (.string b))):
 cY P G o s (.av (.v (.int .i64 (b.size:Int)))):=
 fun _ a w β ro ag=>by
  refine⟨.int .i64 b.size,?_,.fI rfl⟩
  simp[execOp,ao,resolve,invoke,builtin,ag.en hx,Builtin.len_,run_underlying aH,goInt]
def Ek(P:Program)(t:TypeId):Option Nat:=
 match P.underlying t with
 |some (.array n _)=>some n
 |some (.pointer a)=>match P.underlying a with
  |some (.array n _)=>some n
  |_=>none
 |_=>none
theorem S2(x:Operand)(t:TypeId)(ao:o.op= .call {callee:=.builtin .len,args:=#[x],argTypes:=#[t]}){n:Nat}(aH:Ek P t=some n):
 cY P G o s (.av (.v (.int .i64 (n:Int)))):=
 fun _ a w β ro ag=>by
  refine⟨.int .i64 n,?_,.fI rfl⟩
  unfold Ek at aH
  split at aH
  ·rename_i m e hu
   simp only[Option.some.injEq]at aH;subst aH;simp[execOp,ao,resolve,invoke,builtin,Builtin.len_,run_underlying hu,goInt]
  ·rename_i p hu
   split at aH
   ·rename_i m e zfK
    simp only[Option.some.injEq]at aH;subst aH;simp[execOp,ao,resolve,invoke,builtin,Builtin.len_,run_underlying hu,run_underlying zfK,goInt]
   ·cases aH
  ·cases aH
def ke(P:Program)(t:TypeId):Option Nat:=
 match P.underlying t with
 |some (.slice e)=>(P.info? e).map (·.size)
 |_=>none
theorem AM{t n:Nat}(h:ke P t=some n): ∃e,P.underlying t=some (.slice e)∧∀w,(sizeOf e).run P w= .ok n w:=by
 unfold ke at h
 split at h
 ·rename_i e hu
  cases hi:P.info? e with
  |none=>simp[hi]at h
  |some i=>
   simp[hi]at h;subst h;exact⟨e,hu,fun w=>by simp[sizeOf,typeInfo,hi]⟩
 ·cases h
def mA(σ:Heap)(n j:Nat):aD→Option aD
 | .av (.aP m es)=>if m=n then match es[j]? with
  |some e=>some (.av (.ptr e))
  |none=>none
  else none
 | .aP id=>match aE σ id with
  |some (.row false _ m es)=>if m=n∧j<es.length then some (.c5 id j 0)else none
  |some (.row true _ m es)=>if m=n then match es[j]? with
   |some e=>some (.av (.ptr e))
   |none=>none
   else none
  |_=>none
 |_=>none
theorem cZ.elem{w:World}{ro:Nat→Prop}{n:Nat}{es:List (List ba)}{c:Value}(h:cZ w ro (.aP n es) c){j:Nat}{e:List ba}(af:es[j]? =some e):
 ∃a cap,c= .slice (some a) es.length cap∧cZ w ro (.ptr e) (.pointer (some (a.add (j*n)))):=by
 cases h with
 |aP _ _ b cap f aa ae au aR bN=>
  have cW:j<es.length:=(List.getElem?_eq_some_iff.1 af).1
  obtain⟨a,rfl,hc⟩:=aR (by omega)
  have n1:e.length=n:=au e (List.mem_of_getElem? af)
  have k0:j*n+n≤es.length*n:=by rw[←Nat.succ_mul];exact Nat.mul_le_mul_right n cW
  refine⟨a,cap,rfl,.ptr _ _ (fun k=>f (j*n+k)) (fun k x aj=>?_) (fun k x aj=>?_)⟩
  ·have pa:k<n:=by have:=(List.getElem?_eq_some_iff.1 aj).1;omega
   rw[qg,At];exact hc _ (by omega)
  ·have pa:k<n:=by have:=(List.getElem?_eq_some_iff.1 aj).1;omega
   exact bN _ _ (by rw[rq au af k pa];exact aj)
theorem S3{w:World}{ro:Nat→Prop}{σ:Heap}{β:Nat→Value}{N:Nat}(a6:ho w ro σ β N){x:aD}{c:Value}(h:bG w ro σ β N x c){n j:Nat}{p:aD}(ak:mA σ n j x=some p):
 ∃a len cap,c= .slice (some a) len cap∧j<len∧bG w ro σ β N p (.pointer (some (a.add (j*n)))):=by
 cases h with
 |av x c hx=>
  cases x with
  |v=>simp[mA]at ak
  |ptr=>simp[mA]at ak
  |mp=>simp[mA]at ak
  |eB=>simp[mA]at ak
  |li=>simp[mA]at ak
  |aP m es=>
   simp only[mA]at ak
   split at ak
   ·rename_i hm
    subst hm
    split at ak
    ·rename_i e he
     simp only[Option.some.injEq]at ak;subst ak;obtain⟨a,cap,hc,ag⟩:=hx.elem he;exact⟨a,es.length,cap,hc,(List.getElem?_eq_some_iff.1 he).1,.av _ _ ag⟩
    ·cases ak
   ·cases ak
 |aP id c aq aK=>
  simp only[mA]at ak
  split at ak
  ·rename_i t m es ah
   split at ak
   ·rename_i hm
    obtain⟨rfl,af⟩:=hm;simp only[Option.some.injEq]at ak;subst ak
    have du:=a6.dh id _ ah
    cases du with
    |row _ _ _ xs aa=>
     rcases aa.2 with⟨_,aT⟩|⟨g,cap,cur,ax,_⟩
     ·omega
     ·rw[aK _ _ _ _ ah,ax]
      refine⟨_,_,_,rfl,af,.c5 _ _ _ _ aq fun iE bL cS dX ec=>?_⟩
      rw[ah]at ec;simp only[Option.some.injEq,ew.row.injEq]at ec;obtain⟨_,_,rfl,_⟩:=ec;exact⟨g,_,_,ax,by rw[addLit];simp⟩
   ·cases ak
  ·rename_i t m es ah
   split at ak
   ·rename_i hm
    subst hm
    split at ak
    ·rename_i e he
     simp only[Option.some.injEq]at ak;subst ak
     have du:=a6.dh id _ ah
     cases du with
     |gf _ _ _ aa=>
      obtain⟨a,cap,hc,ag⟩:=aa.elem he;exact⟨a,es.length,cap,by rw[aK _ _ _ _ ah,hc],(List.getElem?_eq_some_iff.1 he).1,.av _ _ ag⟩
    ·cases ak
   ·cases ak
  ·cases ak
 |_=>simp[mA]at ak
theorem S4(t:TypeId)(x i:Operand)(ao:o.op= .indexAddr t x i){n:Nat}(aH:ke P t=some n){k:IntKind}{j:Nat}(hi:aL G s i= .av (.v (.int k (j:Int)))){p:aD}(ak:mA s.heap n j (aL G s x)=some p):
 cY P G o s p:=
 fun _ a w β ro ag=>by
  obtain⟨c8,len,cap,hc,af,dG⟩:=S3 ag.heap (ag.eval x) ak;obtain⟨e,hu,bV⟩:=AM aH;refine⟨_,?_,dG⟩
  have oS:(0:Int)≤j∧(j:Int)<len:=⟨by omega,by omega⟩
  simp[execOp,ao,hc,ag.en hi,Instr.indexAt,asIntOf,run_underlying hu,af,bV]
def u1(P:Program)(t:TypeId):Option (Nat × Nat):=
 match P.underlying t with
 |some (.array n e)=>(P.info? e).map fun i=>(n,i.size)
 |_=>none
theorem LN(t:TypeId)(x i:Operand)(ao:o.op= .indexAddr t x i){len n:Nat}(aH:u1 P t=some (len,n)){k:IntKind}{j:Nat}(hi:aL G s i= .av (.v (.int k (j:Int))))(af:j<len)
 {cs:List aD}(dR:fu s.heap (aL G s x)=some cs){p:aD}(ak:iR (j*n) (aL G s x)=some p):
 cY P G o s p:=
 fun _ a w β ro ag=>by
  obtain⟨c8,hc,dG⟩:=Sn ak dR (ag.eval x);unfold u1 at aH
  split at aH
  ·rename_i m e hu
   cases u2:P.info? e with
   |none=>simp[u2]at aH
   |some zfL=>
    simp[u2]at aH;obtain⟨rfl,rfl⟩:=aH;refine⟨_,?_,dG⟩
    simp[execOp,ao,hc,ag.en hi,Instr.indexAt,asIntOf,run_underlying hu,Instr.sureAddr,af,sizeOf,typeInfo,u2]
  ·cases aH
theorem S5(t:TypeId)(x i:Operand)(ao:o.op= .index t x i)(aH:P.underlying t=some .string){k:IntKind}{j:Nat}(hi:aL G s i= .av (.v (.int k (j:Int)))){b:ByteArray}(hx:aL G s x= .av (.v (.string b)))
 {u:UInt8}(hu:b.data.toList[j]? =some u):cY P G o s (.av (.v (.int .u8 (u.toNat:Int)))):=
 fun _ a w β ro ag=>by
  have af:b[j]? =some u:=by
   have aa:j<b.size:=by have:=(List.getElem?_eq_some_iff.1 hu).1;simpa using this
   rw[ByteArray.getElem?_lt' b j aa]
   rw[List.getElem?_eq_some_iff]at hu
   obtain⟨_,ae⟩:=hu;simp only[Option.some.injEq];rw[←ae];rfl
  exact⟨_,by simp[execOp,ao,ag.en hx,ag.en hi,Instr.index,asIntOf,run_underlying aH,af],.fI rfl⟩
def xo(P:Program)(t:TypeId)(f:Nat):Option (Nat × Option Nat):=
 match P.underlying t with
 |some (.struct fs)=>match fs[f]? with
  |some fd=>if scalar P fd.type then some (fd.offset,none)else match mr P fd.type with
   |some n=>some (fd.offset,some n)
   |none=>none
  |none=>none
 |_=>none
theorem S6(t:TypeId)(x:Operand)(f:Nat)(ao:o.op= .field t x f){off:Nat}(aH:xo P t f=some (off,none)){cs:List aD}(hx:aL G s x= .agg cs){v:aD}(ax:cs[off]? =some v):
 cY P G o s v:=
 fun _ a w β ro ag=>by
  have h:=ag.eval x
  rw[hx]at h;generalize he:a.eval x=c at h
  cases h with
  |agg _ c ai hc=>
   have bM:off<c.size:=by have:=(List.getElem?_eq_some_iff.1 ax).1;omega
   unfold xo at aH
   split at aH
   ·rename_i fs hu
    split at aH
    ·rename_i fd hf
     split at aH
     ·rename_i hsc
      simp only[Option.some.injEq,Prod.mk.injEq,and_true]at aH;subst aH;refine⟨c[fd.offset],?_,by simpa[bM]using hc _ v ax⟩
      simp[execOp,ao,he,Instr.field,run_underlying hu,hf,asAgg,part,Av hsc,bM]
     ·split at aH
      ·simp at aH
      ·cases aH
    ·cases aH
   ·cases aH
theorem S7(t:TypeId)(x:Operand)(f:Nat)(ao:o.op= .field t x f){off n:Nat}(aH:xo P t f=some (off,some n)){cs:List aD}(hx:aL G s x= .agg cs)(hn:off+n≤cs.length):
 cY P G o s (.agg ((cs.drop off).take n)):=
 fun _ a w β ro ag=>by
  have h:=ag.eval x
  rw[hx]at h;generalize he:a.eval x=c at h
  cases h with
  |agg _ c ai hc=>
   unfold xo at aH
   split at aH
   ·rename_i fs hu
    split at aH
    ·rename_i fd hf
     split at aH
     ·simp at aH
     ·split at aH
      ·rename_i m bY
       simp only[Option.some.injEq,Prod.mk.injEq]at aH;obtain⟨rfl,rfl⟩:=aH;obtain⟨g1,g2⟩:=D8 bY w;refine⟨.agg (c.extract fd.offset (fd.offset+m)),?_,.agg _ _ (by simp;omega) fun j y af=>?_⟩
       ·simp[execOp,ao,he,Instr.field,run_underlying hu,hf,asAgg,part,g1,g2]
       ·rw[List.getElem?_take]at af
        split at af
        ·rename_i S8
         rw[List.getElem?_drop]at af
         have:=hc _ y af
         have aa:fd.offset+j<c.size:=by omega
         have ae:j<(c.extract fd.offset (fd.offset+m)).size:=by simp;omega
         simp only[Array.getD,ae,dif_pos];simpa[aa]using this
        ·cases af
      ·cases aH
    ·cases aH
   ·cases aH
def places(P:Program)(t:TypeId):Option (Nat→Option (Nat × Nat)):=
 match P.underlying t with
 |some (.struct fs)=>if fs.toList.all fun f=>(P.info? f.type).isSome then some fun i=>(fs.toList.map fun f=>(f.offset,((P.info? f.type).map (·.size)).getD 0))[i]? else none
 |some (.array _ e)=>match P.info? e with
  |some inf=>some fun i=>some (i*inf.size,inf.size)
  |none=>none
 |_=>none
def kf(place:Nat→Option (Nat × Nat)):List aD→List (Nat × aD)→Option (List aD)
 |cs,[]=>some cs
 |cs,(i,v)::rest=>match place i with
  |some (off,size)=>if(c1 v).length=size∧off+size≤cs.length then kf place (ey cs off (c1 v)) rest else none
  |none=>none
theorem S9(off:Nat): ∀(vs:List Value) (k:Nat) (cs:Array Value),off+k+vs.length≤cs.size→
 ((vs.zipIdx k).foldl (fun(cs:Array Value) (x:Value × Nat)=>cs.setIfInBounds (off+x.2) x.1) cs).toList=ey cs.toList (off+k) vs
 |[],k,cs,h=>by simp[ey]
 |v::vs,k,cs,h=>by
  simp only[List.zipIdx_cons,List.foldl_cons];rw[S9 off vs (k+1) (cs.setIfInBounds (off+k) v) (by simp at h⊢;omega)]
  have e:=list_seg_step cs.toList (off+k) v vs (by simp at h⊢;omega)
  simp only[ey,Array.toList_setIfInBounds,←Nat.add_assoc]at*;simp only[List.append_assoc]at e;rw[e];simp[Nat.add_assoc]
theorem El{place place':Nat→Option (Nat × Nat)}(rG: ∀i p,place i=some p→place' i=some p){w:World}{ro:Nat→Prop}{σ:Heap}{β:Nat→Value}{N:Nat}(a6:ho w ro σ β N):
    ∀{ps:List (Nat × aD)} {qs:List (Nat × Value)} {cs ds:List aD} {xs:Array Value},kf place cs ps=some ds→ps.map (·.1)=qs.map (·.1)→(∀(j:Nat) (p:Nat × aD) (q:Nat × Value),ps[j]? =some p→qs[j]? =some q→bG w ro σ β N p.2 q.2∧(c1 p.2).all (eJ σ)=true)→
    xs.size=cs.length→(∀j x,cs[j]? =some x→bG w ro σ β N x (xs.getD j undef))→
    ∃ys,Instr.fill place' xs qs=some ys∧ys.size=ds.length∧∀j x,ds[j]? =some x→bG w ro σ β N x (ys.getD j undef)
  |[],qs,cs,ds,xs,hf,aj,_,ai,hx=>by
    simp[kf]at hf;subst hf
    have:qs=[]:=by cases qs with
      |nil=>rfl
      |cons=>simp at aj
    subst this;exact⟨xs,by simp[Instr.fill],ai,hx⟩
  |(i,v)::ps,[],cs,ds,xs,hf,aj,_,ai,hx=>by simp at aj
  |(i,v)::ps,(AN,u)::qs,cs,ds,xs,hf,aj,ag,ai,hx=>by
    simp only[List.map_cons,List.cons.injEq]at aj;obtain⟨rfl,aj⟩:=aj;simp only[kf]at hf
    split at hf
    · rename_i off size ak
      split at hf
      · rename_i hc
        obtain⟨Em,LO⟩:=hc
        have dG:bG w ro σ β N v u:=(ag 0 (i,v) (i,u) rfl rfl).1
        have eh:(c1 v).all (eJ σ)=true:=(ag 0 (i,v) (i,u) rfl rfl).2
        obtain⟨g1,g2,_⟩:=dG.c1 eh a6
        have Ta:=S9 off u.cells.toList 0 xs (by simp;omega)
        simp only[Nat.add_zero]at Ta
        have aZ:=El rG a6 (ps:=ps) (qs:=qs) (cs:=ey cs off (c1 v)) (ds:=ds) (xs:=(ey xs.toList off u.cells.toList).toArray) hf aj (fun j p q aa ae=>ag (j+1) p q aa ae)
          (by rw[List.size_toArray,qh _ _ _ (by simp;omega),qh _ _ _ (by omega)];simpa using ai) (fun j x af=>by
            have:=Lr (bG w ro σ β N) undef (cs:=cs) (vs:=c1 v) (xs:=xs.toList) (ys:=u.cells.toList) (off:=off) (by simp;omega) (by simp;omega) (by omega)
              (fun j x af=>by have:=hx j x af;simpa[Array.getD_eq_getD_getElem?,List.getD]using this) (fun j x af=>by have:=g2 j x af;simpa[Array.getD_eq_getD_getElem?,List.getD]using this) j x af
            simpa[Array.getD_eq_getD_getElem?,List.getD]using this)
        obtain⟨ys,aa,ae,au⟩:=aZ;refine⟨ys,?_,ae,au⟩
        rw[Instr.fill.eq_2,rG _ _ ak];simp only;rw[if_neg (by simp;omega)]
        have zfM:Array.foldl (fun cs x=>match x with
            |(c,j)=>cs.setIfInBounds (off+j) c) xs u.cells.zipIdx=(ey xs.toList off u.cells.toList).toArray:=by
          apply Array.ext';rw[←Ta,←Array.foldl_toList];simp
        rw[zfM];exact aa
      · cases hf
    · cases hf
theorem run_places(w:World): ∀l:List Field,(l.all fun f=>(P.info? f.type).isSome)=true→(l.mapM (fun f=>do
    let n ←sizeOf f.type
    pure (f.offset,n):Field→Sem (Nat × Nat))).run P w= .ok (l.map fun f=>(f.offset,((P.info? f.type).map (·.size)).getD 0)) w
  |[],_=>by simp
  |f::r,h=>by
    simp only[List.all_cons,Bool.and_eq_true]at h
    have aZ:=run_places w r h.2
    cases hi:P.info? f.type with
    |none=>simp[hi]at h
    |some inf=>
      have aa:(sizeOf f.type).run P w= .ok inf.size w:=by simp[sizeOf,typeInfo,hi]
      simp only[List.mapM_cons,Sem.run_bind,aa,Result.andThen_ok,Sem.run_pure,aZ];simp[hi]
theorem run_build{t:TypeId}{pl:Nat→Option (Nat × Nat)}(ak:places P t=some pl){zs:List Value}(aT:zeroCells P t=some zs){parts:Array (Nat × Value)}{ys:Array Value}(hf:Instr.fill pl zs.toArray parts.toList=some ys)(w:World):
    (Instr.build t parts).run P w= .ok (.agg ys) w:=by
  obtain⟨z,kd,o6,_⟩:=AB aT w;unfold places at ak
  split at ak
  · rename_i fs hu
    split at ak
    · rename_i eh
      simp only[Option.some.injEq]at ak;subst ak
      have aa:=run_places w fs.toList eh
      have ae:(fs.mapM (fun f=>do
          let n ←sizeOf f.type
          pure (f.offset,n):Field→Sem (Nat × Nat))).run P w= .ok (fs.toList.map fun f=>(f.offset,((P.info? f.type).map (·.size)).getD 0)).toArray w:=by
        rw[Array.mapM_eq_mapM_toList];simp only[Sem.run_map,aa];rfl
      simp only[Instr.build,Sem.run_bind,kd,Result.andThen_ok,run_underlying hu,ae,o6]
      have au:(fun(x:Nat)=>(fs.toList.map fun f=>(f.offset,((P.info? f.type).map (·.size)).getD 0)).toArray[x]?)=(fun(i:Nat)=>(fs.toList.map fun f=>(f.offset,((P.info? f.type).map (·.size)).getD 0))[i]?):=by
        funext i;simp
      rw[au,hf];rfl
    · cases ak
  · rename_i n e hu
    split at ak
    · rename_i inf hi
      simp only[Option.some.injEq]at ak;subst ak
      have aa:(sizeOf e).run P w= .ok inf.size w:=by simp[sizeOf,typeInfo,hi]
      simp only[Instr.build,Sem.run_bind,kd,Result.andThen_ok,run_underlying hu,aa,o6,hf];rfl
    · cases ak
  · cases ak
theorem LP{w:World}{ro:Nat→Prop}{σ:Heap}{β:Nat→Value}{N:Nat}{zs:List Value}(eh:zs.all Value.oneCell'=true): ∀(j:Nat) (x:aD),(zs.map fun z=>aD.av (.v z))[j]? =some x→bG w ro σ β N x (zs.toArray.getD j undef):=by
 intro j x af
 rw[List.getElem?_map]at af
 cases rv:zs[j]? with
 |none=>simp[rv]at af
 |some y=>
  simp[rv]at af;subst af
  have:y.oneCell'=true:=by
   rw[List.all_eq_true]at eh;exact eh y (List.mem_of_getElem? rv)
  simpa[rv]using bG.av (w:=w) (ro:=ro) (σ:=σ) (β:=β) (N:=N) _ _ (.v y this)
theorem LQ{E:Entry}{a:Act}{w:World}{β:Nat→Value}{ro:Nat→Prop}(ag:dc E G s a w β ro){parts:Array (Nat × Operand)}{ps:List (Nat × aD)}(rH:parts.toList.map (fun p=>(p.1,aL G s p.2))=ps)
 (eh:ps.all (fun p=>(c1 p.2).all (eJ s.heap))=true):
 ps.map (·.1)=(parts.map fun p=>(p.1,a.eval p.2)).toList.map (·.1)∧
 ∀(j:Nat) (p:Nat × aD) (q:Nat × Value),ps[j]? =some p→(parts.map fun p=>(p.1,a.eval p.2)).toList[j]? =some q→bG w ro s.heap β s.next p.2 q.2∧(c1 p.2).all (eJ s.heap)=true:=by
 subst rH
 refine⟨by simp,fun j p q aa ae=>?_⟩
 have ak:(c1 p.2).all (eJ s.heap)=true:=by
  rw[List.all_eq_true]at eh;exact eh p (List.mem_of_getElem? aa)
 rw[List.getElem?_map]at aa
 rw[Array.toList_map,List.getElem?_map]at ae
 cases af:parts.toList[j]? with
 |none=>simp[af]at aa
 |some y=>
  simp[af]at aa ae;subst aa ae;exact⟨ag.eval _,ak⟩
theorem Tb(t:TypeId)(parts:Array (Nat × Operand))(ao:o.op= .build t parts){pl:Nat→Option (Nat × Nat)}(ak:places P t=some pl){zs:List Value}(aT:zeroCells P t=some zs)(sU:zs.all Value.oneCell'=true)
 {ps:List (Nat × aD)}(rH:parts.toList.map (fun p=>(p.1,aL G s p.2))=ps)(eh:ps.all (fun p=>(c1 p.2).all (eJ s.heap))=true){ds:List aD}(hf:kf pl (zs.map fun z=>.av (.v z)) ps=some ds):
 cY P G o s (.agg ds):=
 fun _ a w β ro ag=>by
  obtain⟨aa,ae⟩:=LQ ag rH eh;obtain⟨ys,g1,g2,g3⟩:=El (place':=pl) (fun _ _ h=>h) ag.heap hf aa ae (xs:=zs.toArray) (by simp) (LP sU)
  refine⟨.agg ys,?_,.agg _ _ g2 g3⟩
  have ad:=run_build (P:=P) ak aT g1 w
  simp only[execOp,ao,Sem.run_bind]
  erw [ad]
  rfl
end
end Go.aN
namespace Go.aN
open Go
mutual
def ee(id:Nat):aD→aD
 | .av x=>.av x
 | .agg cs=>.agg (eo id cs)
 | .tuple cs=>.tuple (eo id cs)
 | .ptr k off=>if k=id then .top else .ptr k off
 | .dF k off=>if k=id then .top else .dF k off
 | .c5 k i off=>if k=id then .top else .c5 k i off
 | .aP k=>if k=id then .top else .aP k
 | .fn f p q=>.fn f (eo id p) (eo id q)
 | .ref k=>if k=id then .top else .ref k
 | .top=>.top
def eo(id:Nat):List aD→List aD
 |[]=>[]
 |x::r=>ee id x::eo id r
end
def dz(id:Nat):Heap→Heap
 |[]=>[]
 |(k,.box t cs)::r=>if k=id then dz id r else(k,.box t (eo id cs))::dz id r
 |(k,.row z t n es)::r=>if k=id then dz id r else(k,.row z t n es)::dz id r
 |(k,.bU bW)::r=>if k=id then dz id r else(k,.bU bW)::dz id r
def eD(id:Nat):ew→ew
 | .box t cs=>.box t (eo id cs)
 | .row z t n es=>.row z t n es
 | .bU bW=>.bU bW
theorem h9(d:Nat): ∀(l:List aD),(eo d l).length=l.length
 |[]=>rfl
 |x::r=>by simp[eo,h9 d r]
theorem hT(d:Nat): ∀{l:List aD} {j:Nat} {x:aD},(eo d l)[j]? =some x→∃y,l[j]? =some y∧x=ee d y
 |[],j,x,h=>by simp[eo]at h
 |y::r,j,x,h=>by
  cases j with
  |zero=>simp[eo]at h;exact⟨y,by simp,h.symm⟩
  |succ j=>simp[eo]at h;simpa using hT d h
theorem qn(id:Nat): ∀(σ:Heap) (k:Nat),aE (dz id σ) k=if k=id then none else(aE σ k).map (eD id)
 |[],k=>by simp[dz,aE]
 |(j,.box t cs)::r,k=>by
  have aZ:=qn id r k
  by_cases af:j=id
  ·subst af
   by_cases aj:k=j
   ·subst aj;simpa[dz]using aZ
   ·simp[dz,aE,aZ,aj,Ne.symm aj]
  ·by_cases aj:j=k
   ·subst aj;simp[dz,aE,af,eD]
   ·simp[dz,aE,af,aj,aZ]
 |(j,.row z t n es)::r,k=>by
  have aZ:=qn id r k
  by_cases af:j=id
  ·subst af
   by_cases aj:k=j
   ·subst aj;simpa[dz]using aZ
   ·simp[dz,aE,aZ,aj,Ne.symm aj]
  ·by_cases aj:j=k
   ·subst aj;simp[dz,aE,af,eD]
   ·simp[dz,aE,af,aj,aZ]
 |(j,.bU bW)::r,k=>by
  have aZ:=qn id r k
  by_cases af:j=id
  ·subst af
   by_cases aj:k=j
   ·subst aj;simpa[dz]using aZ
   ·simp[dz,aE,aZ,aj,Ne.symm aj]
  ·by_cases aj:j=k
   ·subst aj;simp[dz,aE,af,eD]
   ·simp[dz,aE,af,aj,aZ]
theorem ju(id:Nat)(o:ew):(eD id o).live=o.live:=by cases o<;>rfl
section
variable {P:Program} {G:bc} {s:aQ} {E:Entry} {a:Act} {w w':World} {β:Nat→Value} {ro:Nat→Prop}
theorem dc.renew(h:dc E G s a w β ro)(id:Nat)(ad:s.base≤id)(bM:id<s.next){t0:TypeId}{n0:Nat}{AO:List (List ba)}(bj:aE s.heap id=some (.row false t0 n0 AO))(o:ew)(val:Value)
 (o3:w'.os=w.os)(o4:w'.tape=w.tape)(kI:w'.output=w.output)(bV:w.heap.size≤w'.heap.size)(hw: ∀b,b<w.heap.size→cb (β id)≠some b→w'.heap[b]? =w.heap[b]?)
 (gN: ∀b,cb val=some b→cb (β id)=some b∨w.heap.size≤b)(_hlive:o.live=true)
 (du:k7 w' ro ((id,o)::dz id s.heap) (gX β id val) s.next id o):
 dc E G ⟨eo id s.c0,(id,o)::dz id s.heap,s.next,s.base⟩ a w' (gX β id val) ro:=by
 have cm: ∀b,ro b→w'.heap[b]? =w.heap[b]? :=fun b ag=>hw b (h.heap.lt b ag) fun ad=>h.heap.fo b ag ⟨id,_,bj,rfl,ad⟩
 have ah: ∀k,k≠id→aE ((id,o)::dz id s.heap) k=(aE s.heap k).map (eD id):=fun k aj=>by simp[aE,Ne.symm aj,qn,aj]
 have uX:aE ((id,o)::dz id s.heap) id=some o:=by simp[aE]
 have key: ∀x c,bG w ro s.heap β s.next x c→bG w' ro ((id,o)::dz id s.heap) (gX β id val) s.next (ee id x) c:=by
  intro x c hx
  induction hx with
  |av x c hx=>exact .av x c (hx.keep cm fun _ h=>h)
  |agg cs c ai _ aZ=>
   refine .agg _ c (by rw[h9];exact ai) fun j x af=>?_
   obtain⟨y,ay,rfl⟩:=hT id af;exact aZ j y ay
  |tuple cs c ai _ aZ=>
   refine .tuple _ c (by rw[h9];exact ai) fun j x af=>?_
   obtain⟨y,ay,rfl⟩:=hT id af;exact aZ j y ay
  |ptr k off c aq ak=>
   simp only[ee]
   split
   ·exact .top _
   ·rename_i aj
    refine .ptr k off c aq fun t cs bz=>?_
    rw[db _ _ aj];rw[ah k aj]at bz
    cases ai:aE s.heap k with
    |none=>simp[ai]at bz
    |some p=>
     cases p with
     |box bL cs'=>exact ak bL cs' ai
     |row=>simp[ai,eD]at bz
     |bU=>simp[ai,eD]at bz
  |dF k off c aq ak=>
   simp only[ee]
   split
   ·exact .top _
   ·rename_i aj
    refine .dF k off c aq fun t cs bz=>?_
    rw[db _ _ aj];rw[ah k aj]at bz
    cases ai:aE s.heap k with
    |none=>simp[ai]at bz
    |some p=>
     cases p with
     |box bL cs'=>exact ak bL cs' ai
     |row=>simp[ai,eD]at bz
     |bU=>simp[ai,eD]at bz
  |c5 k i off c aq ak=>
   simp only[ee]
   split
   ·exact .top _
   ·rename_i aj
    refine .c5 k i off c aq fun z t n es bz=>?_
    rw[db _ _ aj];rw[ah k aj]at bz
    cases ai:aE s.heap k with
    |none=>simp[ai]at bz
    |some p=>
     cases p with
     |box bL cs'=>simp[ai,eD]at bz
     |bU=>simp[ai,eD]at bz
     |row iE bL cS dX=>
      simp only[ai,Option.map_some,eD,Option.some.injEq,ew.row.injEq]at bz;obtain⟨rfl,rfl,rfl,rfl⟩:=bz;exact ak _ _ _ _ ai
  |aP k c aq ak=>
   simp only[ee]
   split
   ·exact .top _
   ·rename_i aj
    refine .aP k c aq fun z t n es bz=>?_
    rw[db _ _ aj];rw[ah k aj]at bz
    cases ai:aE s.heap k with
    |none=>simp[ai]at bz
    |some p=>
     cases p with
     |box bL cs'=>simp[ai,eD]at bz
     |bU=>simp[ai,eD]at bz
     |row iE bL cS dX=>exact ak _ _ _ _ ai
  |fn f p q c d aa ae _ _ hq hr=>
   refine .fn f _ _ c d (by rw[h9];exact aa) (by rw[h9];exact ae) (fun j x af=>?_) (fun j x af=>?_)
   ·obtain⟨y,ay,rfl⟩:=hT id af
    exact hq j y ay
   ·obtain⟨y,ay,rfl⟩:=hT id af
    exact hr j y ay
  |ref k c aq ak=>
   simp only[ee]
   split
   ·exact .top _
   ·rename_i aj
    refine .ref k c aq fun bW bz=>?_
    rw[db _ _ aj];rw[ah k aj]at bz
    cases ai:aE s.heap k with
    |none=>simp[ai]at bz
    |some p=>
     cases p with
     |box=>simp[ai,eD]at bz
     |row=>simp[ai,eD]at bz
     |bU lL=>exact ak lL ai
  |top c=>exact .top c
 have dT: ∀k p,k≠id→aE ((id,o)::dz id s.heap) k=some p→∃q,aE s.heap k=some q∧p=eD id q:=by
  intro k p aj bz;rw[ah k aj]at bz
  cases ai:aE s.heap k with
  |none=>simp[ai]at bz
  |some q=>simp[ai]at bz;exact⟨q,rfl,bz.symm⟩
 refine⟨h.defers,by simpa[h9]using h.size,fun i x hx=>?_,⟨fun k p aj=>?_,fun k bs p fZ b aj eu ak gO bk eC=>?_,fun b ag=>?_,fun b ag=>Nat.lt_of_lt_of_le (h.heap.lt b ag) bV⟩,
  h.ik.keep cm fun _ h=>h,?_,h.base⟩
 ·obtain⟨y,ay,rfl⟩:=hT id hx
  exact key _ _ (h.slot i y ay)
 ·by_cases bI:k=id
  ·subst bI
   rw[uX]at aj;simp only[Option.some.injEq]at aj;subst aj;exact du
  ·obtain⟨q,aK,rfl⟩:=dT k p bI aj
   have gP:=h.heap.dh k q aK
   have b9:q.live=true→∀b,cb (β k)=some b→w'.heap[b]? =w.heap[b]? :=fun aq b bk=>
    hw b (gP.hO aq bk) fun jS=>bI (h.heap.inj k id q _ b aK bj aq rfl bk jS)
   cases gP with
   |box t cs b arr aa ae au aR=>
    refine .box t _ b arr (by rw[db _ _ bI];exact aa) ((b9 rfl b (by rw[aa];rfl)).trans ae) (by rw[h9];exact au) fun j x af=>?_
    obtain⟨y,ay,rfl⟩:=hT id af;exact key _ _ (aR j y ay)
   |row t n es xs aa ae au=>exact .row t n es xs (by rw[db _ _ bI];exact aa.keep (fun b ad=>b9 rfl b ad) bV) ae fun j x af=>(au j x af).keep cm fun _ h=>h
   |gf t n es aa=>exact .gf t n es (by rw[db _ _ bI];exact aa.keep cm fun _ h=>h)
   |bU bW b o aa ae au=>exact .bU bW b o (by rw[db _ _ bI];exact aa) ((b9 rfl b aa).trans ae) (by rw[db _ _ bI];exact bW.mono _ _ _ _ (fun x c h=>h.keep cm fun _ h=>h) au)
 ·by_cases bI:k=id
  ·by_cases gQ:bs=id
   ·rw[bI,gQ]
   ·subst bI
    rw[dZ]at bk;rw[db _ _ gQ]at eC;obtain⟨q,aK,rfl⟩:=dT bs fZ gQ eu;rw[ju]at gO
    have ae:=(h.heap.dh bs q aK).hO gO eC
    rcases gN b bk with aa|aa
    ·exact(h.heap.inj bs k q _ b aK bj gO rfl eC aa).symm
    ·omega
  ·obtain⟨q,aK,rfl⟩:=dT k p bI aj
   rw[ju]at ak;rw[db _ _ bI]at bk
   by_cases gQ:bs=id
   ·subst gQ
    rw[dZ]at eC
    have ae:=(h.heap.dh k q aK).hO ak bk
    rcases gN b eC with aa|aa
    ·exact h.heap.inj k bs q _ b aK bj ak rfl bk aa
    ·omega
   ·obtain⟨q',uY,rfl⟩:=dT bs fZ gQ eu
    rw[ju]at gO;rw[db _ _ gQ]at eC;exact h.heap.inj k bs q q' b aK uY ak gO bk eC
 ·rintro⟨k,p,aj,ak,bk⟩
  by_cases bI:k=id
  ·subst bI
   rw[dZ]at bk
   rcases gN b bk with aa|aa
   ·exact h.heap.fo b ag ⟨k,_,bj,rfl,aa⟩
   ·have:=h.heap.lt b ag;omega
  ·obtain⟨q,aK,rfl⟩:=dT k p bI aj
   rw[ju]at ak;rw[db _ _ bI]at bk;exact h.heap.fo b ag ⟨k,q,aK,ak,bk⟩
 ·have t:=h.trans
  refine⟨o3.trans t.os,o4.trans t.tape,kI.trans t.output,Nat.le_trans t.size bV,fun b hP gh=>?_,t.jo,t.j9,?_,fun k aj p bz=>?_,fun k p bz=>?_,t.le⟩
  ·by_cases jS:cb (β id)=some b
   ·rcases t.hp b ⟨id,_,bj,rfl,jS⟩with hc|hc
    ·exact absurd hc gh
    ·omega
   ·rw[hw b (Nat.lt_of_lt_of_le hP t.size) jS]
    exact t.frame b hP gh
  ·rintro b ⟨k,p,aj,ak,bk⟩
   by_cases bI:k=id
   ·subst bI
    rw[dZ]at bk
    rcases gN b bk with aa|aa
    ·exact t.hp b ⟨k,_,bj,rfl,aa⟩
    ·exact .inr (Nat.le_trans t.size aa)
   ·obtain⟨q,aK,rfl⟩:=dT k p bI aj
    rw[ju]at ak;rw[db _ _ bI]at bk;exact t.hp b ⟨k,q,aK,ak,bk⟩
  ·have bI:k≠id:=by have:=h.base;omega
   obtain⟨q,aK,rfl⟩:=dT k p bI bz;rw[db _ _ bI];exact t.dT k aj q aK
  ·by_cases bI:k=id
   ·subst bI;exact bM
   ·obtain⟨q,aK,rfl⟩:=dT k p bI bz
    exact t.new k q aK
def chunk{α:Type}(n:Nat):Nat→List α→List (List α)
 |0,_=>[]
 |k+1,l=>l.take n::chunk n k (l.drop n)
theorem AP{α:Type}(n:Nat): ∀(k:Nat) (l:List α),(chunk n k l).length=k
 |0,_=>rfl
 |k+1,l=>by simp[chunk,AP n k]
theorem Tc{α:Type}(n:Nat): ∀(k:Nat) (l:List α),l.length=k*n→∀e∈chunk n k l,e.length=n
 |0,_,_,e,he=>by simp[chunk]at he
 |k+1,l,h,e,he=>by
  rw[Nat.succ_mul]at h;simp only[chunk,List.mem_cons]at he
  rcases he with rfl|he
  ·simp;omega
  ·exact Tc n k (l.drop n) (by simp;omega) e he
theorem Td{α:Type}(n:Nat): ∀(k:Nat) (l:List α),l.length=k*n→(chunk n k l).flatten=l
 |0,l,h=>by
  have:l=[]:=List.eq_nil_of_length_eq_zero (by simpa using h)
  simp[chunk,this]
 |k+1,l,h=>by
  rw[Nat.succ_mul]at h;simp only[chunk,List.flatten_cons];rw[Td n k (l.drop n) (by simp;omega),List.take_append_drop]
theorem ij.En{w:World}{t:TypeId}{n:Nat}{v:Value}{len:Nat}{xs:List Value}(h:w.ownsRow 0 t n v len xs):ij w t n v len xs:=by
 obtain⟨aq,ag⟩:=h
 refine⟨aq,?_⟩
 rcases ag with⟨aa,ae⟩|⟨g,cap,cur,ax,_,ah,hle,im,dR,aH⟩
 ·exact .inl ⟨⟨none,aa,fun _ h=>(by cases h)⟩,ae⟩
 ·by_cases hc:cap=0
  ·subst hc
   have:len=0:=by omega
   subst this;exact .inl ⟨⟨_,ax,fun a aY=>(by cases aY;exact(Array.getElem?_eq_some_iff.1 ah).1)⟩,rfl⟩
  ·exact .inr ⟨g,cap,cur,ax,by omega,ah,hle,im,dR,aH⟩
def xp(P:Program)(G:bc)(o:Oper)(s:aQ)(t:TypeId)(n:Nat)(es:List (List ba)):Prop:=
 (∀e∈es,e.length=n)∧∀E a w β ro,dc E G s a w β ro→∃v xs w',(execOp a.eval o).run P w= .ok (.value v) w'∧w'.ownsRow 0 t n v es.length xs∧w.grownBy w' none∧(∀b,cb v=some b→w.heap.size≤b)∧
  ∀j x,es.flatten[j]? =some x→cZ w ro x (xs.getD j undef)
theorem dY.newRow{o:Oper}{t:TypeId}{n:Nat}{es:List (List ba)}(ad:s.base≤s.next)(a6:xp P G o s t n es):
 dY P G o s ({s with heap:=(s.next,.row false t n es)::s.heap,next:=s.next+1}.put o.dst (.aP s.next)):=by
 obtain⟨hn,h⟩:=a6
 intro E a w ⟨β,ro,ag⟩ K Q hK
 obtain⟨v,xs,w',cA,hG,c2,gN,e0⟩:=h E a w β ro ag
 unfold Oper.wp
 rw[cA]
 have jq:aE s.heap s.next=none:=by
  cases ah:aE s.heap s.next with
  |none=>rfl
  |some p=>have:=ag.trans.new _ _ ah;omega
 have hw: ∀b,b<w.heap.size→w'.heap[b]? =w.heap[b]? :=fun b ad=>c2.block b ad (by simp)
 have cm: ∀b,ro b→w'.heap[b]? =w.heap[b]? :=fun b ad=>hw b (ag.heap.lt b ad)
 have fh:dc E G {s with heap:=(s.next,.row false t n es)::s.heap,next:=s.next+1} a w' (gX β s.next v) ro:=by
  refine ag.new s.next jq ad (Nat.le_refl _) _ v c2.os c2.tape c2.output c2.size hw gN rfl ?_
  exact .row t n es xs (by rw[dZ];exact .En hG) hn fun j x af=>(e0 j x af).keep cm fun _ h=>h
 refine hK _ _ ⟨_,ro,fh.put o.dst _ _ ?_⟩
 exact .aP _ _ (Nat.lt_succ_self _) fun z bL cS dX _=>(dZ _ _ _).symm
theorem zfN{o:Oper}(t:TypeId)(len:Nat)(parts:Array (Nat × Operand))(ao:o.op= .buildSlice t len parts){e n:Nat}(hu:P.underlying t=some (.slice e))(bV:(P.info? e).map (·.size)=some n)
 {zs:List Value}(aT:zeroCells P e=some zs)(sU:zs.all Value.oneCell'=true)(mB:zs.length=n)(hlen:0<len*n∧len*n≤16777216)
 {ps:List (Nat × aD)}(rH:parts.toList.map (fun p=>(p.1,aL G s p.2))=ps)(eh:ps.all (fun p=>(c1 p.2).all (eJ s.heap))=true)
 {ds:List aD}(hf:kf (fun i=>some (i*n,n)) ((List.replicate len (zs.map fun z=>aD.av (.v z))).flatten) ps=some ds){rs:List ba}(gi:iS ds=some rs):
 xp P G o s e n (chunk n len rs):=by
 have nf:ds.length=len*n:=by
  have: ∀(ps:List (Nat × aD)) (cs ds:List aD),kf (fun i=>some (i*n,n)) cs ps=some ds→ds.length=cs.length:=by
   intro ps
   induction ps with
   |nil=>intro cs ds h;simp[kf]at h;rw[h]
   |cons p r aZ=>
    intro cs ds h;obtain⟨i,v⟩:=p;simp only[kf]at h
    split at h
    ·rename_i hc
     rw[aZ _ _ h,qh _ _ _ (by omega)]
    ·cases h
  rw[this ps _ _ hf,ka (n:=n) (fun e he=>by rw[List.mem_replicate]at he;rw[he.2];simpa using mB)]
  simp
 have Te:rs.length=len*n:=by rw[←nf,Ea gi];simp
 refine⟨Tc n len rs Te,fun E a w β ro ag=>?_⟩
 obtain⟨aa,ae⟩:=LQ ag rH eh
 obtain⟨z,kd,o6,_⟩:=AB aT w
 have e0:(List.replicate len (zs.map fun z=>aD.av (.v z))).flatten.length=len*n:=by
  rw[ka (n:=n) (fun e he=>by rw[List.mem_replicate]at he;rw[he.2];simpa using mB)];simp
 have zfO:zs.toArray.size=n:=by simpa using mB
 have rI:0<n:=by
  rcases Nat.eq_zero_or_pos n with h|h
  ·rw[h]at hlen;simp at hlen
  ·exact h
 obtain⟨ys,g1,g2,g3⟩:=El (place':=fun i=>some (i*n,n)) (fun _ _ h=>h) ag.heap hf aa ae (xs:=(Array.range (len*n)).map fun x=>zs.toArray[x%zs.toArray.size]!) (by rw[e0];simp) (fun j x af=>by
  have cW:j<len*n:=by rw[←e0];exact(List.getElem?_eq_some_iff.1 af).1
  have hm:j=(j/ n)*n+j%n:=by rw[Nat.mul_comm];exact(Nat.div_add_mod j n).symm
  have n6:j%n<n:=Nat.mod_lt _ rI
  have n7:j/ n<len:=by rw[Nat.div_lt_iff_lt_mul rI];exact cW
  rw[hm,rq (n:=n) (fun e he=>by rw[List.mem_replicate]at he;rw[he.2];simpa using mB) (i:=j/ n) (e:=zs.map fun z=>aD.av (.v z)) (by simp[n7]) (j%n) n6]at af
  have:=LP (w:=w) (ro:=ro) (σ:=s.heap) (β:=β) (N:=s.next) sU (j%n) x af
  have aB:(Array.map (fun x=>zs.toArray[x%zs.toArray.size]!) (Array.range (len*n))).getD j undef=zs.toArray.getD (j%n) undef:=by
   have au:j%n<zs.length:=by omega
   simp[cW,mB,List.getElem?_eq_getElem au]
  rw[aB]
  exact this)
 have mw:ys.toList.length=(chunk n len rs).length*n:=by rw[AP];simpa[nf]using g2
 refine⟨.slice (some ⟨w.heap.size,0,none⟩) len len,ys.toList,w.alloc (.cells ys e),?_,?_,World.grownBy_alloc w _ none,fun b bk=>?_,fun j x af=>?_⟩
 ·have AQ:(sizeOf e).run P w= .ok n w:=by
   cases hi:P.info? e with
   |none=>simp[hi]at bV
   |some i=>simp[hi]at bV;simp[sizeOf,typeInfo,hi,bV]
  have b9: ¬len*n>2^24:=by omega
  have jv: ¬len*n=0:=by omega
  simp only[execOp,ao,Sem.run_bind,Instr.buildSlice,run_underlying hu,Result.andThen_ok,AQ,if_neg b9,if_neg jv,kd,Sem.run_pure,o6]
  erw [g1]
  simp[newRow]
 ·rw[AP]
  exact World.ownsRow_lit w ys len (Nat.zero_le _) (by simp only[maxLen];have:=Nat.le_mul_of_pos_right len rI;omega) (by simpa[nf]using g2)
 ·simp only[cb]at bk
  split at bk
  ·cases bk
  ·simp at bk;omega
 ·rw[Td n len rs Te]at af
  have au:=g3 j (.av x) (by rw[Ea gi];simp[af])
  cases au with
  |av _ _ au=>
   have:ys.toList.getD j undef=ys.getD j undef:=by simp[List.getD,Array.getD_eq_getD_getElem?]
   rw[this];exact au
end
end Go.aN
