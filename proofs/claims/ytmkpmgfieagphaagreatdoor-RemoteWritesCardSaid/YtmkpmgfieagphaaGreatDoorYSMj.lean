/- The AV calculus, part G: code, loops, the beginning and the end of a call. Conditions: none. -/
import Derived.Test.YtmkpmgfieagphaaGreatDoorYSMf
namespace Go.aO
open Go
def lift(E:Entry)(G:bd)(Q:Exit→aU→Prop):Exit→Act→World→Prop:=fun e a w=>∃s,Q e s∧Rel E G s a w
def b6(P:Program)(G:bd)(c:Code)(Q:Exit→aU→Prop)(s:aU):Prop:=∀E a w,Rel E G s a w→c.wp P (lift E G Q) a w
def cE(P:Program)(G:bd)(ops:Array Oper)(Q:Exit→aU→Prop)(l:List Oper)(s:aU):Prop:=∀E a w,Rel E G s a w→wpList P ops (lift E G Q) l a w
section
variable {P:Program} {G:bd} {Q:Exit→aU→Prop} {s:aU}
theorem b6.region{id:Nat}{l:List Oper}(h:cE P G l.toArray Q l s):b6 P G (.region id l.toArray false) Q s:=fun E a w ag=>wp_region_lit (h E a w ag)
theorem cE.nil{ops:Array Oper}(h:Q .normal s):cE P G ops Q [] s:=fun _ _ _ ag=>wpList_nil ⟨s,h,ag⟩
theorem cE.cons{ops:Array Oper}{o:Oper}{rest:List Oper}{bC:aU}(ah:o.guard=none)(h:dS P G o s bC)(k:cE P G ops Q rest bC):cE P G ops Q (o::rest) s:=
 fun E a w ag=>wpList_plain ah fun _ hK=>h E a w ag _ _ fun bf w' dY=>hK bf w' (k E bf w' dY)
def l6(ops:Array Oper)(j:Nat):Option Nat:=(ops[j]?).bind (·.dst)
theorem Kk{ops:Array Oper}{E:Entry}{a:Act}{w:World}(ag:Rel E G s a w){j d:Nat}(af:l6 ops j=some d){b:Bool}(hd:s.c0[d]? =some (.aw (.v (.bool b)))):yielded ops a.tmps j=some b:=by
 obtain⟨β,ro,h⟩:=ag
 have ai:=bF.val (h.slot d _ hd)
 have bR:d<a.tmps.size:=by rw[h.size];exact(List.getElem?_eq_some_iff.1 hd).1
 unfold l6 at af
 unfold yielded
 rw[af]
 simp only[Option.bind_some]
 simp[bR]at ai
 simp[bR,ai]
theorem Ru{ops:Array Oper}{E:Entry}{a:Act}{w:World}(ag:Rel E G s a w){j d:Nat}(af:l6 ops j=some d){cs:List aF}(hd:s.c0[d]? =some (.tuple cs)):yielded ops a.tmps j=none:=by
 obtain⟨β,ro,h⟩:=ag
 have ai:=h.slot d _ hd
 have bR:d<a.tmps.size:=by rw[h.size];exact(List.getElem?_eq_some_iff.1 hd).1
 unfold l6 at af
 unfold yielded
 rw[af]
 simp only[Option.bind_some]
 simp[bR]at ai
 generalize a.tmps[d]=c at ai
 have aN:a.tmps[d]? =some a.tmps[d]:=by simp[bR]
 have ai:=h.slot d _ hd
 simp[bR]at ai
 cases e2:a.tmps[d]with
 |tuple x=>simp[aN,e2]
 |_=>rw[e2]at ai;cases ai
theorem cE.guarded{ops:Array Oper}{o:Oper}{rest:List Oper}{bC:aU}{j d:Nat}{b:Bool}(ah:o.guard=some (j,b))(af:l6 ops j=some d)(hd:s.c0[d]? =some (.aw (.v (.bool b))))
 (h:dS P G o s bC)(k:cE P G ops Q rest bC):cE P G ops Q (o::rest) s:=
 fun E a w ag=>wpList_step fun _ hK=>by
  have ay:=Kk ag af hd
  simp only[Region.wanted,ah,ay,beq_self_eq_true,if_true];exact h E a w ag _ _ fun bf w' dY=>hK bf w' (k E bf w' dY)
theorem Rel.C9{E:Entry}{a:Act}{w:World}(ag:Rel E G s a w)(dst:Option Nat):Rel E G (s.put dst (.tuple [])) (a.put dst undef) w:=by
 obtain⟨β,ro,h⟩:=ag
 exact⟨β,ro,h.put dst _ _ (.tuple _ _ rfl (by simp))⟩
theorem cE.zdb{ops:Array Oper}{o:Oper}{rest:List Oper}{j d:Nat}{b:Bool}(ah:o.guard=some (j,b))(af:l6 ops j=some d)(hd:s.c0[d]? =some (.aw (.v (.bool (!b)))))
 (k:cE P G ops Q rest (s.put o.dst (.tuple []))):cE P G ops Q (o::rest) s:=
 fun E a w ag=>by
  have ay:=Kk ag af hd
  refine wpList_skip ?_ (k E _ w (ag.C9 o.dst))
  simp only[Region.wanted,ah,ay]
  cases b<;>rfl
theorem cE.zdc{ops:Array Oper}{o:Oper}{rest:List Oper}{j d:Nat}{b:Bool}(ah:o.guard=some (j,b))(af:l6 ops j=some d){cs:List aF}(hd:s.c0[d]? =some (.tuple cs))
 (k:cE P G ops Q rest (s.put o.dst (.tuple []))):cE P G ops Q (o::rest) s:=
 fun E a w ag=>by
  have ay:=Ru ag af hd
  refine wpList_skip ?_ (k E _ w (ag.C9 o.dst))
  simp only[Region.wanted,ah,ay]
  cases b<;>rfl
def zdd(P:Program)(G:bd)(c:Code)(Q:Exit→aU→Prop):Exit→aU→Prop
 | .normal,s=>b6 P G c Q s
 |e,s=>Q e s
theorem b6.seq{x y:Code}(h:b6 P G x (zdd P G y Q) s):b6 P G (.seq x y) Q s:=fun E a w ag=>by
 refine wp_seq (wp_mono (h E a w ag) fun e bf w' aN=>?_)
 obtain⟨bC,aa,ae⟩:=aN
 cases e with
 |normal=>exact aa E bf w' ae
 |_=>exact⟨bC,aa,ae⟩
theorem b6.cond{x:Operand}{c d:Code}{b:Bool}(hx:aM G s x= .aw (.v (.bool b)))(aK:b=true→b6 P G c Q s)(hf:b=false→b6 P G d Q s):b6 P G (.cond x c d) Q s:=fun E a w ag=>by
 obtain⟨β,ro,h⟩:=ag
 exact wp_cond_split (h.ee hx) (fun e=>aK e E a w ⟨β,ro,h⟩) (fun e=>hf e E a w ⟨β,ro,h⟩)
theorem b6.Rv{x:Operand}{c d:Code}(hx:aM G s x= .aw (.v (.bool true)))(aK:b6 P G c Q s):b6 P G (.cond x c d) Q s:=b6.cond hx (fun _=>aK) (fun h=>by cases h)
theorem b6.Rw{x:Operand}{c d:Code}(hx:aM G s x= .aw (.v (.bool false)))(hf:b6 P G d Q s):b6 P G (.cond x c d) Q s:=b6.cond hx (fun h=>by cases h) (fun _=>hf)
theorem b6.skip(h:Q .normal s):b6 P G .skip Q s:=fun _ _ _ ag=>wp_skip ⟨s,h,ag⟩
theorem b6.ret(h:Q .ret s):b6 P G .ret Q s:=fun _ _ _ ag=>wp_ret ⟨s,h,ag⟩
theorem b6.exit{id:Nat}(h:Q (.exit id) s):b6 P G (.exit id) Q s:=fun _ _ _ ag=>wp_exit ⟨s,h,ag⟩
theorem b6.mono{c:Code}{Q':Exit→aU→Prop}(h:b6 P G c Q s)(aN: ∀e s,Q e s→Q' e s):b6 P G c Q' s:=fun E a w ag=>
 wp_mono (h E a w ag) fun e _ _ ⟨bC,aa,ae⟩=>⟨bC,aN e bC aa,ae⟩
def Rx(id:Nat)(Q:Exit→aU→Prop):Exit→aU→Prop
 | .exit gv,s=>bif Nat.beq gv id then Q .normal s else Q (.exit gv) s
 |e,s=>Q e s
theorem b6.block{id:Nat}{c:Code}(h:b6 P G c (Rx id Q) s):b6 P G (.block id c) Q s:=fun E a w ag=>by
 refine wp_block (wp_mono (h E a w ag) fun e bf w' aN=>?_)
 obtain⟨bC,aa,ae⟩:=aN
 cases e with
 |exit gv=>
  simp only[Rx,Exit.inBlock]at*
  split
  ·rename_i he
   have ad:Nat.beq gv id=true:=by simpa using he
   rw[ad]at aa;exact⟨bC,aa,ae⟩
  ·rename_i he
   have ad:Nat.beq gv id=false:=by
    cases aN:Nat.beq gv id with
    |false=>rfl
    |true=>exact absurd (Nat.eq_of_beq_eq_true aN) he
   rw[ad]at aa;exact⟨bC,aa,ae⟩
 |_=>exact⟨bC,aa,ae⟩
def cu(s bC:aU):Prop:=∀E (G:bd) a w,Rel E G s a w→Rel E G bC a w
theorem cu.refl(s:aU):cu s s:=fun _ _ _ _ h=>h
theorem cu.trans{s bC Ry:aU}(h:cu s bC)(k:cu bC Ry):cu s Ry:=fun E G a w ag=>k E G a w (h E G a w ag)
theorem b6.le{c:Code}{bC:aU}(h:cu s bC)(k:b6 P G c Q bC):b6 P G c Q s:=fun E a w ag=>k E a w (h E G a w ag)
theorem cE.le{ops:Array Oper}{l:List Oper}{bC:aU}(h:cu s bC)(k:cE P G ops Q l bC):cE P G ops Q l s:=fun E a w ag=>k E a w (h E G a w ag)
theorem b6.loop{ι:Type}(st:ι→aU)(inv:ι→Prop)(mu:ι→Nat){c:Code}(x:ι)(aP:cu s (st x))(hi:inv x)
    (round: ∀x,inv x→b6 P G c (fun e bC=>match e with
      | .normal=>∃y,inv y∧mu y<mu x∧cu bC (st y)
      |e=>Q e bC) (st x)):b6 P G (.loop c) Q s:=fun E a w ag=>by
  have key: ∀n x,mu x=n→inv x→∀a w,Rel E G (st x) a w→(Code.loop c).wp P (lift E G Q) a w:=by
    intro n x hn hx a w ag;refine wp_loop (fun a w=>∃y,inv y∧Rel E G (st y) a w) (fun a w=>Classical.epsilon fun m=>∃y,inv y∧Rel E G (st y) a w∧mu y=m∧∀z,inv z→Rel E G (st z) a w→m≤mu z) ⟨x,hx,ag⟩ ?_
    intro a w ⟨di,wm,zde⟩
    have hex: ∃m,∃y,inv y∧Rel E G (st y) a w∧mu y=m∧∀z,inv z→Rel E G (st z) a w→m≤mu z:=by
      have: ∀k y,mu y=k→inv y→Rel E G (st y) a w→∃m,∃y,inv y∧Rel E G (st y) a w∧mu y=m∧∀z,inv z→Rel E G (st z) a w→m≤mu z:=by
        intro k
        induction k using Nat.strongRecOn with
        |_ k a7=>
          intro y aj ay zq
          by_cases qW: ∀z,inv z→Rel E G (st z) a w→mu y≤mu z
          · exact⟨mu y,y,ay,zq,rfl,qW⟩
          · simp only[Classical.not_forall]at qW
            obtain⟨z,aS,j2,bR⟩:=qW;exact a7 (mu z) (by omega) z rfl aS j2
      exact this _ di rfl wm zde
    obtain⟨y,ay,zq,zdf,_⟩:=Classical.epsilon_spec hex;refine wp_mono (round y ay E a w zq) fun e bf w' aN=>?_
    obtain⟨bC,aa,ae⟩:=aN
    cases e with
    |normal=>
      obtain⟨z,aS,bR,hle⟩:=aa
      have j2:=hle E G bf w' ae
      refine⟨⟨z,aS,j2⟩,?_⟩
      have zdg: ∃m,∃y,inv y∧Rel E G (st y) bf w'∧mu y=m∧∀z,inv z→Rel E G (st z) bf w'→m≤mu z:=by
        have: ∀k y,mu y=k→inv y→Rel E G (st y) bf w'→∃m,∃y,inv y∧Rel E G (st y) bf w'∧mu y=m∧∀z,inv z→Rel E G (st z) bf w'→m≤mu z:=by
          intro k
          induction k using Nat.strongRecOn with
          |_ k a7=>
            intro y aj ay zq
            by_cases qW: ∀z,inv z→Rel E G (st z) bf w'→mu y≤mu z
            · exact⟨mu y,y,ay,zq,rfl,qW⟩
            · simp only[Classical.not_forall]at qW
              obtain⟨z,aS,j2,bR⟩:=qW;exact a7 (mu z) (by omega) z rfl aS j2
        exact this _ z rfl aS j2
      obtain⟨_,_,_,_,qW⟩:=Classical.epsilon_spec zdg
      have au:=qW z aS j2
      rw[←zdf];exact Nat.lt_of_le_of_lt au bR
    |_=>exact⟨bC,aa,ae⟩
  exact key _ x rfl hi a w (aP E G a w ag)
end
def dJ(P:Program)(G:bd)(f:FuncId)(args:List aF)(σ:Heap)(n:Nat)(Q:aF→Heap→Prop):Prop:=
 ∀w β ro (ed:Array Value),ed.size=args.length→(∀i x,args[i]? =some x→bF w ro σ β n x (ed.getD i undef))→gY w ro σ β n→rR w ro G→(∀id o,aG σ id=some o→id<n)→
  Calls P f ed w fun e w'=>∃v r e0 dN ro' cT,e= .returned v∧Q r e0∧bF w' ro' e0 dN cT r v∧gY w' ro' e0 dN cT∧Trans ⟨w,ro,σ,β,n,[]⟩ w' ro' e0 dN cT
def mN(P:Program)(s:aU):List ResultVar→Option (List aF)
 |[]=>some []
 | .tmp t::r=>match mN P s r with
  |some l=>some (s.c0.getD t .top::l)
  |none=>none
 | .cell p t::r=>match mN P s r,fr s.heap (s.c0.getD p .top)with
  |some l,some cs=>match l3 P t with
   |some n=>if n≤cs.length∧0<n then some (.agg (cs.take n)::l)else none
   |none=>if scalar P t then match cs with
    |y::_=>some (y::l)
    |[]=>none
    else none
  |_,_=>none
def zr(P:Program)(fn:Func)(s:aU):Option aF:=
 match mN P s fn.results.toList with
 |some [x]=>some x
 |some l=>some (.tuple l)
 |none=>none
def zdh(P:Program)(fn:Func)(Q:aF→Heap→Prop):Exit→aU→Prop:=fun e s=>
 (e= .normal∨e= .ret)∧∃r e0,zr P fn s=some r∧(∀id o,aG e0 id=some o→aG s.heap id=some o)∧Q r e0
theorem gY.sub{w:World}{ro:Nat→Prop}{σ e0:Heap}{β:Nat→Value}{N:Nat}(h:gY w ro σ β N)(ai: ∀id o,aG e0 id=some o→aG σ id=some o):gY w ro e0 β N:=by
 refine⟨fun id o ah=>(h.dh id o (ai id o ah)).keep (fun _ _=>rfl) (fun _ h=>h) (Nat.le_refl _) (Nat.le_refl _) rfl (fun _ _ _=>rfl) (fun id t cs ah=>⟨rfl,t,cs,ai id _ ah⟩) (fun id z t n es ah=>⟨rfl,z,t,es,ai id _ ah⟩) (fun id bU ah=>⟨rfl,bU,ai id _ ah⟩),
  fun id gv o ct b aa ae=>h.inj id gv o ct b (ai id o aa) (ai gv ct ae),fun b ad ⟨id,o,ah,ar,bm⟩=>h.fk b ad ⟨id,o,ai id o ah,ar,bm⟩,h.lt⟩
theorem bF.sub{w:World}{ro:Nat→Prop}{σ e0:Heap}{β:Nat→Value}{N:Nat}{x:aF}{c:Value}(h:bF w ro σ β N x c)(ai: ∀id o,aG e0 id=some o→aG σ id=some o):bF w ro e0 β N x c:=
 h.keep (fun _ _=>rfl) (fun _ h=>h) (Nat.le_refl _) (fun id t cs ah=>⟨rfl,t,cs,ai id _ ah⟩) (fun id z t _ es ah=>⟨rfl,z,t,es,ai id _ ah⟩) (fun id bU ah=>⟨rfl,bU,ai id _ ah⟩)
theorem Trans.sub{E:Entry}{w:World}{ro:Nat→Prop}{σ e0:Heap}{β:Nat→Value}{n:Nat}(h:Trans E w ro σ β n)(ai: ∀id o,aG e0 id=some o→aG σ id=some o):Trans E w ro e0 β n:=
 ⟨h.os,h.tape,h.output,h.size,h.frame,h.jk,h.jZ,fun b ⟨id,o,ah,ar,bm⟩=>h.gZ b ⟨id,o,ai id o ah,ar,bm⟩,fun id hi o ah=>h.dM id hi o (ai id o ah),fun id o ah=>h.new id o (ai id o ah),h.le⟩
section
variable {P:Program} {G:bd}
def ue(tmps:Array Value):ResultVar→Sem Value
 | .tmp t=>pure (tmps.getD t undef)
 | .cell p t=>do
  let b ←asAddr (tmps.getD p undef)
  loadVar t b
theorem zdi(fn:Func)(tmps:Array Value):results fn tmps=(do
    let vs ←fn.results.mapM (ue tmps)
    pure (if h:vs.size=1 then vs[0]else .tuple vs)):=by
  unfold results
  have:(fun x=>match x with
      |ResultVar.tmp t=>(pure (tmps.getD t undef):Sem Value)
      |ResultVar.cell p t=>do
        let b ←asAddr (tmps.getD p undef)
        loadVar t b)=ue tmps:=by
    funext x
    cases x<;>rfl
  rw[←this];rfl
theorem Kl{E:Entry}{s:aU}{a:Act}{w:World}{β:Nat→Value}{ro:Nat→Prop}(h:df E G s a w β ro): ∀{rs:List ResultVar} {l:List aF},mN P s rs=some l→
 ∃vs:List Value,(rs.mapM (ue a.tmps)).run P w= .ok vs w∧vs.length=l.length∧∀j x,l[j]? =some x→bF w ro s.heap β s.next x (vs.getD j undef)
 |[],l,ar=>by
  simp[mN]at ar;subst ar;exact⟨[],by simp,rfl,by simp⟩
 | .tmp t::r,l,ar=>by
  simp only[mN]at ar
  cases ag:mN P s r with
  |none=>simp[ag]at ar
  |some gz=>
   simp only[ag,Option.some.injEq]at ar;subst ar;obtain⟨vs,aa,ae,au⟩:=Kl h ag;refine⟨a.tmps.getD t undef::vs,by simp only[List.mapM_cons,Sem.run_bind,ue,Sem.run_pure,Result.andThen_ok,aa],by simp[ae],fun j x af=>?_⟩
   cases j with
   |zero=>
    simp at af;subst af;exact h.eval (.tmp t)
   |succ j=>exact au j x af
 | .cell p t::r,l,ar=>by
  simp only[mN]at ar
  cases ag:mN P s r with
  |none=>simp[ag]at ar
  |some gz=>
   cases hc:fr s.heap (s.c0.getD p .top)with
   |none=>rw[ag,hc]at ar;cases ar
   |some cs=>
    rw[ag,hc]at ar;simp only at ar;obtain⟨vs,aa,ae,au⟩:=Kl h ag
    have dU:=h.eval (.tmp p)
    simp only[aM,Act.eval]at dU
    cases bZ:l3 P t with
    |some n=>
     simp only[bZ]at ar
     split at ar
     ·rename_i hn
      simp only[Option.some.injEq]at ar;subst ar;obtain⟨c8,uf,f,hf⟩:=wh h.heap hc dU (by intro e;subst e;simp at hn;omega)
      obtain⟨g1,g2⟩:=C3 bZ w
      have l7:=run_loadCells (P:=P) w c8 n f (fun j af=>(hf j (cs[j]'(by omega)) (by simp)).1)
      refine⟨.agg ((List.range n).map f).toArray::vs,?_,by simp[ae],fun j x af=>?_⟩
      ·simp only[List.mapM_cons,Sem.run_bind,ue,uf,asAddr,Sem.run_pure,Result.andThen_ok,loadVar,g1,g2,if_true,l7,aa]
      ·cases j with
       |zero=>
        simp at af;subst af;refine .agg _ _ (by simp;omega) fun j y af=>?_
        rw[List.getElem?_take]at af
        split at af
        ·have:=(hf j y af).2
         rename_i mC;simpa[mC]using this
        ·cases af
       |succ j=>exact au j x af
     ·cases ar
    |none=>
     simp only[bZ]at ar
     split at ar
     ·rename_i hsc
      cases cs with
      |nil=>simp at ar
      |cons y cs'=>
       simp only[Option.some.injEq]at ar;subst ar;obtain⟨c8,uf,f,hf⟩:=wh h.heap hc dU (by simp)
       have g1:=zf hsc w
       obtain⟨kP,dD⟩:=hf 0 y rfl;rw[show c8.add 0=c8 from by simp[Addr.add]]at kP
       refine⟨f 0::vs,?_,by simp[ae],fun j x af=>?_⟩
       ·simp only[List.mapM_cons,Sem.run_bind,ue,uf,asAddr,Sem.run_pure,Result.andThen_ok,loadVar,g1]
        simp[run_load,kP,aa]
       ·cases j with
        |zero=>simp at af;subst af;exact dD
        |succ j=>exact au j x af
     ·cases ar
theorem zdj{E:Entry}{s:aU}{a:Act}{w:World}{β:Nat→Value}{ro:Nat→Prop}(h:df E G s a w β ro){fn:Func}{r:aF}(ag:zr P fn s=some r):
 ∃v,(results fn a.tmps).run P w= .ok v w∧bF w ro s.heap β s.next r v:=by
 unfold zr at ag
 cases ba:mN P s fn.results.toList with
 |none=>simp[ba]at ag
 |some l=>
  rw[ba]at ag;obtain⟨vs,aa,ae,au⟩:=Kl h ba
  have hm:(fn.results.mapM (ue a.tmps)).run P w= .ok vs.toArray w:=by
   rw[Array.mapM_eq_mapM_toList];simp only[Sem.run_map,aa]
   first|rfl|simp
  have qX:(results fn a.tmps).run P w= .ok (if h:vs.toArray.size=1 then vs.toArray[0]else .tuple vs.toArray) w:=by
   rw[zdi,Sem.run_bind,hm];rfl
  refine⟨_,qX,?_⟩
  match l,ba,ag,ae,au with
  |[x],_,ag,ae,au=>
   injection ag with ag
   subst ag
   have vA:vs.toArray.size=1:=by simpa using ae
   rw[dif_pos vA]
   have:=au 0 x rfl
   have Da:0<vs.length:=by simp at vA;omega
   simpa[List.getD,Da]using this
  |[],_,ag,ae,au=>
   injection ag with ag
   subst ag
   have:vs=[]:=List.eq_nil_of_length_eq_zero (by simpa using ae)
   subst this;exact .tuple _ _ rfl (by simp)
  |x::y::gz,_,ag,ae,au=>
   injection ag with ag
   subst ag;rw[dif_neg (by simp at ae⊢;omega)]
   refine .tuple _ _ (by simpa using ae) fun j z af=>?_
   have:=au j z af
   simpa[List.getD,Array.getD_eq_getD_getElem?]using this
theorem dJ.Ql{f:FuncId}{fn:Func}{c:Code}{args:List aF}{σ:Heap}{n k:Nat}{Q:aF→Heap→Prop}(hf:P.funcs[f]? =some fn)(ad:fn.body=some c)(aj:fn.ntmps-args.length=k)
 (h:b6 P G c (zdh P fn Q) ⟨args++List.replicate k .top,σ,n,n⟩):dJ P G f args σ n Q:=by
 intro w β ro ed bY hX bk ah bR
 refine calls_of_wp hf ad (wp_mono (h ⟨w,ro,σ,β,n,[]⟩ _ w ⟨β,ro,rfl,?_,?_,bk,ah,?_,Nat.le_refl _⟩) ?_)
 ·simp[bY,aj]
 ·intro i x hi
  simp only at hi
  by_cases Km:i<args.length
  ·rw[List.getElem?_append_left Km]at hi
   have:=hX i x hi
   have aa:i<ed.size:=by omega
   simpa[Array.getElem?_append_left aa,aa,Array.getElem_append_left aa]using this
  ·rw[List.getElem?_append_right (by omega)]at hi
   rw[List.getElem?_replicate]at hi
   split at hi
   ·simp only[Option.some.injEq]at hi;subst hi;exact .top _
   ·cases hi
 ·exact⟨rfl,rfl,rfl,Nat.le_refl _,fun _ _ _=>rfl,fun _ h=>.inl h,fun _ h=>h,fun _ h=>.inl h,fun id _ o ao=>⟨by rw[ao];simp,rfl⟩,bR,Nat.le_refl _⟩
 ·intro e bf w' ⟨bC,aN,dN,ro',ag⟩
  obtain⟨he,r,e0,qX,gC,ek⟩:=aN;obtain⟨v,ax,dD⟩:=zdj ag qX
  rcases he with rfl|rfl
  ·exact⟨ag.defers,v,ax,v,r,e0,dN,ro',bC.next,rfl,ek,dD.sub gC,ag.heap.sub gC,ag.trans.sub gC⟩
  ·exact⟨ag.defers,v,ax,v,r,e0,dN,ro',bC.next,rfl,ek,dD.sub gC,ag.heap.sub gC,ag.trans.sub gC⟩
end
end Go.aO
namespace Go.aO
open Go
mutual
def gD(n:Nat):aF→Bool
 | .aw _=>true
 | .agg cs=>kQ n cs
 | .tuple cs=>kQ n cs
 | .ptr id _=>decide (id<n)
 | .dC id _=>decide (id<n)
 | .c6 id _ _=>decide (id<n)
 | .aR id=>decide (id<n)
 | .fn _ p q=>kQ n p&&kQ n q
 | .ref id=>decide (id<n)
 | .top=>true
def kQ(n:Nat):List aF→Bool
 |[]=>true
 |x::r=>gD n x&&kQ n r
end
theorem qY{n:Nat}: ∀{cs:List aF},kQ n cs=true→∀{j:Nat} {x:aF},cs[j]? =some x→gD n x=true
 |[],_,j,x,h=>by simp at h
 |y::r,ad,j,x,h=>by
  simp only[kQ,Bool.and_eq_true]at ad
  cases j with
  |zero=>simp at h;subst h;exact ad.1
  |succ j=>simp at h;exact qY ad.2 h
theorem bF.lower{w:World}{ro:Nat→Prop}{σ:Heap}{β:Nat→Value}{N oz:Nat}{x:aF}{c:Value}(h:bF w ro σ β N x c)(ad:gD oz x=true):bF w ro σ β oz x c:=by
 induction h with
 |aw x c hx=>exact .aw x c hx
 |agg cs c ai _ a7=>
  simp only[gD]at ad;exact .agg cs c ai fun j x af=>a7 j x af (qY ad af)
 |tuple cs c ai _ a7=>
  simp only[gD]at ad;exact .tuple cs c ai fun j x af=>a7 j x af (qY ad af)
 |ptr id off c ar ak=>exact .ptr id off c (by simpa[gD]using ad) ak
 |dC id off c ar ak=>exact .dC id off c (by simpa[gD]using ad) ak
 |c6 id i off c ar ak=>exact .c6 id i off c (by simpa[gD]using ad) ak
 |aR id c ar ak=>exact .aR id c (by simpa[gD]using ad) ak
 |fn f p q c d aa ae _ _ ha hb=>
  simp only[gD,Bool.and_eq_true]at ad;exact .fn f p q c d aa ae (fun j x af=>ha j x af (qY ad.1 af)) (fun j x af=>hb j x af (qY ad.2 af))
 |ref id c ar ak=>exact .ref id c (by simpa[gD]using ad) ak
 |top c=>exact .top c
def wo(σ:Heap):List Nat→Heap
 |[]=>[]
 |id::r=>match aG σ id with
  |some o=>(id,o)::wo σ r
  |none=>wo σ r
theorem Kn(σ:Heap): ∀(ids:List Nat) (id:Nat) (o:ei),aG (wo σ ids) id=some o→aG σ id=some o
 |[],id,o,h=>by simp[wo,aG]at h
 |k::r,id,o,h=>by
  simp only[wo]at h
  cases aj:aG σ k with
  |none=>rw[aj]at h;exact Kn σ r id o h
  |some p=>
   rw[aj]at h;simp only[aG]at h
   split at h
   ·rename_i he
    subst he;rw[aj];exact h
   ·exact Kn σ r id o h
def kR(n:Nat):Heap→Bool
 |[]=>true
 |(id,.box _ cs)::r=>decide (id<n)&&kQ n cs&&kR n r
 |(id,.row _ _ _ _)::r=>decide (id<n)&&kR n r
 |(id,.bT _)::r=>decide (id<n)&&kR n r
theorem qZ{n:Nat}: ∀{σ:Heap},kR n σ=true→∀{id:Nat} {o:ei},aG σ id=some o→id<n∧∀t cs,o= .box t cs→kQ n cs=true
 |[],_,id,o,h=>by simp[aG]at h
 |(k,.box t cs)::r,ad,id,o,h=>by
  simp only[kR,Bool.and_eq_true,decide_eq_true_eq]at ad;simp only[aG]at h
  split at h
  ·rename_i he
   subst he;simp only[Option.some.injEq]at h;subst h;exact⟨ad.1.1,fun bI cs' he=>by cases he;exact ad.1.2⟩
  ·exact qZ ad.2 h
 |(k,.row z t m es)::r,ad,id,o,h=>by
  simp only[kR,Bool.and_eq_true,decide_eq_true_eq]at ad;simp only[aG]at h
  split at h
  ·rename_i he
   subst he;simp only[Option.some.injEq]at h;subst h;exact⟨ad.1,fun bI cs' he=>by cases he⟩
  ·exact qZ ad.2 h
 |(k,.bT bU)::r,ad,id,o,h=>by
  simp only[kR,Bool.and_eq_true,decide_eq_true_eq]at ad;simp only[aG]at h
  split at h
  ·rename_i he
   subst he;simp only[Option.some.injEq]at h;subst h;exact⟨ad.1,fun bI cs' he=>by cases he⟩
  ·exact qZ ad.2 h
mutual
def hJ(σ:Heap):aF→aF
 | .aR id=>match aG σ id with
  |some (.row true _ n es)=>.aw (.aR n es)
  |_=>.aR id
 | .agg cs=>.agg (kr σ cs)
 | .tuple cs=>.tuple (kr σ cs)
 | .fn f p q=>.fn f (kr σ p) (kr σ q)
 | .aw x=>.aw x
 | .ptr id off=>.ptr id off
 | .dC id off=>.dC id off
 | .c6 id i off=>.c6 id i off
 | .ref id=>.ref id
 | .top=>.top
def kr(σ:Heap):List aF→List aF
 |[]=>[]
 |x::r=>hJ σ x::kr σ r
end
theorem nB(σ:Heap): ∀(l:List aF),(kr σ l).length=l.length
 |[]=>rfl
 |x::r=>by simp[kr,nB σ r]
theorem oI(σ:Heap): ∀{l:List aF} {j:Nat} {x:aF},(kr σ l)[j]? =some x→∃y,l[j]? =some y∧x=hJ σ y
 |[],j,x,h=>by simp[kr]at h
 |y::r,j,x,h=>by
  cases j with
  |zero=>simp[kr]at h;exact⟨y,by simp,h.symm⟩
  |succ j=>simp[kr]at h;simpa using oI σ h
theorem zdk{w:World}{ro:Nat→Prop}{σ:Heap}{β:Nat→Value}{N:Nat}(bk:gY w ro σ β N){x:aF}{c:Value}(h:bF w ro σ β N x c):bF w ro σ β N (hJ σ x) c:=by
 induction h with
 |aR id c ar ak=>
  simp only[hJ]
  split
  ·rename_i t n es ah
   rw[ak true t n es ah]
   have:=bk.dh id _ ah
   cases this with
   |gi _ _ _ aa=>exact .aw _ _ aa
  ·exact .aR id c ar ak
 |aw x c h=>exact .aw x c h
 |agg cs c aa _ a7=>
  refine .agg _ c (by rw[nB];exact aa) fun j x af=>?_
  obtain⟨y,ay,rfl⟩:=oI σ af;exact a7 j y ay
 |tuple cs c aa _ a7=>
  refine .tuple _ c (by rw[nB];exact aa) fun j x af=>?_
  obtain⟨y,ay,rfl⟩:=oI σ af;exact a7 j y ay
 |ptr id off c aa ae=>exact .ptr id off c aa ae
 |dC id off c aa ae=>exact .dC id off c aa ae
 |c6 id i off c aa ae=>exact .c6 id i off c aa ae
 |fn f p q c d aa ae _ _ ha hb=>
  refine .fn f _ _ c d (by rw[nB];exact aa) (by rw[nB];exact ae) (fun j x af=>?_) (fun j x af=>?_)
  ·obtain⟨y,ay,rfl⟩:=oI σ af
   exact ha j y ay
  ·obtain⟨y,ay,rfl⟩:=oI σ af
   exact hb j y ay
 |ref id c aa ae=>exact .ref id c aa ae
 |top c=>exact .top c
mutual
def fH:aF→Bool
 | .aw _=>true
 | .agg cs=>e8 cs
 | .tuple cs=>e8 cs
 | .fn _ p q=>e8 p&&e8 q
 | .top=>true
 | .ptr _ _=>false
 | .dC _ _=>false
 | .c6 _ _ _=>false
 | .aR _=>false
 | .ref _=>false
def e8:List aF→Bool
 |[]=>true
 |x::r=>fH x&&e8 r
end
theorem mO: ∀{cs:List aF},e8 cs=true→∀{j:Nat} {x:aF},cs[j]? =some x→fH x=true
 |[],_,j,x,h=>by simp at h
 |y::r,ad,j,x,h=>by
  simp only[e8,Bool.and_eq_true]at ad
  cases j with
  |zero=>simp at h;subst h;exact ad.1
  |succ j=>simp at h;exact mO ad.2 h
theorem Db(l:List bb):e8 (l.map .aw)=true:=by
 induction l with
 |nil=>rfl
 |cons x r a7=>simp[e8,fH,a7]
theorem nC{w:World}{ro:Nat→Prop}{σ b1:Heap}{β zt:Nat→Value}{N M:Nat}{x:aF}{c:Value}(h:bF w ro σ β N x c)(ak:fH x=true):bF w ro b1 zt M x c:=by
 induction h with
 |aw x c h=>exact .aw x c h
 |agg cs c aa _ a7=>
  simp only[fH]at ak;exact .agg cs c aa fun j x af=>a7 j x af (mO ak af)
 |tuple cs c aa _ a7=>
  simp only[fH]at ak;exact .tuple cs c aa fun j x af=>a7 j x af (mO ak af)
 |fn f p q c d aa ae _ _ ha hb=>
  simp only[fH,Bool.and_eq_true]at ak;exact .fn f p q c d aa ae (fun j x af=>ha j x af (mO ak.1 af)) (fun j x af=>hb j x af (mO ak.2 af))
 |top c=>exact .top c
 |ptr=>simp[fH]at ak
 |dC=>simp[fH]at ak
 |c6=>simp[fH]at ak
 |aR=>simp[fH]at ak
 |ref=>simp[fH]at ak
mutual
def pV(d:Nat):aF→aF
 | .aw x=>.aw x
 | .agg cs=>.agg (lq d cs)
 | .tuple cs=>.tuple (lq d cs)
 | .ptr id off=>.ptr (d+id) off
 | .dC id off=>.dC (d+id) off
 | .c6 id i off=>.c6 (d+id) i off
 | .aR id=>.aR (d+id)
 | .fn f p q=>.fn f (lq d p) (lq d q)
 | .ref id=>.ref (d+id)
 | .top=>.top
def lq(d:Nat):List aF→List aF
 |[]=>[]
 |x::r=>pV d x::lq d r
end
def kS(d:Nat):Heap→Heap
 |[]=>[]
 |(id,.box t cs)::r=>(d+id,.box t (lq d cs))::kS d r
 |(id,.row z t n es)::r=>(d+id,.row z t n es)::kS d r
 |(id,.bT bU)::r=>(d+id,.bT bU)::kS d r
def kt(d:Nat):ei→ei
 | .box t cs=>.box t (lq d cs)
 | .row z t n es=>.row z t n es
 | .bT bU=>.bT bU
theorem wq(d:Nat): ∀(l:List aF),(lq d l).length=l.length
 |[]=>rfl
 |x::r=>by simp[lq,wq d r]
theorem wu(d:Nat): ∀{l:List aF} {j:Nat} {x:aF},(lq d l)[j]? =some x→∃y,l[j]? =some y∧x=pV d y
 |[],j,x,h=>by simp[lq]at h
 |y::r,j,x,h=>by
  cases j with
  |zero=>simp[lq]at h;exact⟨y,by simp,h.symm⟩
  |succ j=>simp[lq]at h;simpa using wu d h
theorem Rz(σ b1:Heap)(id:Nat):aG (σ++b1) id=(aG σ id).or (aG b1 id):=by
 induction σ with
 |nil=>simp[aG]
 |cons p r a7=>
  obtain⟨k,o⟩:=p;simp only[List.cons_append,aG]
  split
  ·simp
  ·exact a7
theorem zu(d:Nat): ∀(σ:Heap) (id:Nat),aG (kS d σ) id=if d≤id then(aG σ (id-d)).map (kt d)else none
 |[],id=>by simp[kS,aG]
 |(k,.box t cs)::r,id=>by
  simp only[kS,aG,zu d r]
  by_cases aa:d+k=id
  ·have ae:d≤id:=by omega
   have au:k=id-d:=by omega
   simp[ae,au,kt]
  ·by_cases ae:d≤id
   ·have au: ¬k=id-d:=by omega
    simp[aa,ae,au]
   ·simp[aa,ae]
 |(k,.row z t n es)::r,id=>by
  simp only[kS,aG,zu d r]
  by_cases aa:d+k=id
  ·have ae:d≤id:=by omega
   have au:k=id-d:=by omega
   simp[ae,au,kt]
  ·by_cases ae:d≤id
   ·have au: ¬k=id-d:=by omega
    simp[aa,ae,au]
   ·simp[aa,ae]
 |(k,.bT bU)::r,id=>by
  simp only[kS,aG,zu d r]
  by_cases aa:d+k=id
  ·have ae:d≤id:=by omega
   have au:k=id-d:=by omega
   simp[ae,au,kt]
  ·by_cases ae:d≤id
   ·have au: ¬k=id-d:=by omega
    simp[aa,ae,au]
   ·simp[aa,ae]
theorem bF.shift{w:World}{ro ro':Nat→Prop}{σ b1:Heap}{β zt:Nat→Value}{N M:Nat}{x:aF}{c:Value}(h:bF w ro σ β N x c)(cl: ∀b,ro b→ro' b)
 (Ko: ∀id o,aG b1 id=some o→id<M):
 bF w ro' (kS M σ++b1) (fun k=>if M≤k then β (k-M)else zt k) (M+N) (pV M x) c:=by
 have key: ∀id,aG (kS M σ++b1) (M+id)=(aG σ id).map (kt M):=by
  intro id;rw[Rz,zu]
  have aa:M≤M+id:=by omega
  simp only[aa,if_true,Nat.add_sub_cancel_left]
  cases ai:aG σ id with
  |some o=>simp
  |none=>
   simp
   cases aK:aG b1 (M+id)with
   |none=>rfl
   |some o=>have:=Ko _ _ aK;omega
 induction h with
 |aw x c hx=>exact .aw x c (hx.keep (fun _ _=>rfl) cl)
 |agg cs c ai _ a7=>
  refine .agg _ c (by rw[wq];exact ai) fun j x af=>?_
  obtain⟨y,ay,rfl⟩:=wu M af;exact a7 j y ay
 |tuple cs c ai _ a7=>
  refine .tuple _ c (by rw[wq];exact ai) fun j x af=>?_
  obtain⟨y,ay,rfl⟩:=wu M af;exact a7 j y ay
 |ptr id off c ar ak=>
  refine .ptr _ off c (by omega) fun t cs ah=>?_
  rw[key]at ah;simp only[Nat.le_add_right,if_true,Nat.add_sub_cancel_left]
  cases ai:aG σ id with
  |none=>simp[ai]at ah
  |some o=>
   cases o with
   |box bI cs'=>exact ak bI cs' ai
   |row=>simp[ai,kt]at ah
   |bT=>simp[ai,kt]at ah
 |dC id off c ar ak=>
  refine .dC _ off c (by omega) fun t cs ah=>?_
  rw[key]at ah;simp only[Nat.le_add_right,if_true,Nat.add_sub_cancel_left]
  cases ai:aG σ id with
  |none=>simp[ai]at ah
  |some o=>
   cases o with
   |box bI cs'=>exact ak bI cs' ai
   |row=>simp[ai,kt]at ah
   |bT=>simp[ai,kt]at ah
 |c6 id i off c ar ak=>
  refine .c6 _ i off c (by omega) fun z t n es ah=>?_
  rw[key]at ah;simp only[Nat.le_add_right,if_true,Nat.add_sub_cancel_left]
  cases ai:aG σ id with
  |none=>simp[ai]at ah
  |some o=>
   cases o with
   |box bI cs'=>simp[ai,kt]at ah
   |bT=>simp[ai,kt]at ah
   |row iA bI cT dR=>
    simp only[ai,Option.map_some,kt,Option.some.injEq,ei.row.injEq]at ah;obtain⟨rfl,rfl,rfl,rfl⟩:=ah;exact ak _ _ _ _ ai
 |aR id c ar ak=>
  refine .aR _ c (by omega) fun z t n es ah=>?_
  rw[key]at ah;simp only[Nat.le_add_right,if_true,Nat.add_sub_cancel_left]
  cases ai:aG σ id with
  |none=>simp[ai]at ah
  |some o=>
   cases o with
   |box bI cs'=>simp[ai,kt]at ah
   |bT=>simp[ai,kt]at ah
   |row iA bI cT dR=>exact ak _ _ _ _ ai
 |fn f p q c d aa ae _ _ ha hb=>
  refine .fn f _ _ c d (by rw[wq];exact aa) (by rw[wq];exact ae) (fun j x af=>?_) (fun j x af=>?_)
  ·obtain⟨y,ay,rfl⟩:=wu M af
   exact ha j y ay
  ·obtain⟨y,ay,rfl⟩:=wu M af
   exact hb j y ay
 |ref id c ar ak=>
  refine .ref _ c (by omega) fun bU ah=>?_
  rw[key]at ah;simp only[Nat.le_add_right,if_true,Nat.add_sub_cancel_left]
  cases ai:aG σ id with
  |none=>simp[ai]at ah
  |some o=>
   cases o with
   |box=>simp[ai,kt]at ah
   |row=>simp[ai,kt]at ah
   |bT ln=>exact ak ln ai
 |top c=>exact .top c
def mP(P:Program)(f:FuncId):Bool:=
 match P.funcs[f]? with
 |some fn=>!(fn.name== "runtime.NumGoroutine")&&fn.body.isSome
 |none=>false
theorem Dc{P:Program}{f:FuncId}(h:mP P f=true)(args:Array Value)(w:World):(callFunc f args).run P w= .ok (.enter f args) w:=by
 unfold mP at h
 split at h
 ·rename_i fn hf
  simp only[Bool.and_eq_true,Bool.not_eq_true']at h
  have ae:fn.body≠none:=by intro e;simp[e]at h
  have au:fn.name≠ "runtime.NumGoroutine" :=by simpa using h.1
  simp[callFunc,hf,ae,au]
 ·cases h
section
variable {P:Program} {G:bd} {s:aU} {Q:Exit→aU→Prop}
theorem l1.call{o:Oper}{x:Operand}{xs:Array Operand}{ts:Array TypeId}(ao:o.op= .call {callee:=.value x,args:=xs,argTypes:=ts}){f:FuncId}(hx:aM G s x= .fn (.func f) [] [])
 (gE:mP P f=true){args:List aF}(hX:xs.toList.map (fun y=>hJ s.heap (aM G s y))=args)(oJ:e8 args=true){R:aF→Heap→Prop}(hc:dJ P G f args [] 0 R){K:Nat}{r:aF}{b1:Heap}
 (fS: ∀eV fI,R eV fI→eV=r∧fI=b1)(Kp:gD K r=true)(Dd:kR K b1=true)(ad:s.base≤s.next):
 l1 P G o s ({s with heap:=kS s.next b1++s.heap,next:=s.next+K}.put o.dst (pV s.next r)):=by
 intro E a w ⟨β,ro,h⟩ zdl zdm Kq
 have lr:=h.eval x
 rw[hx]at lr
 generalize he:a.eval x=Kr at lr
 cases lr with
 |fn _ _ _ c d aa ae _ _=>
  have gw:c= #[]:=by simpa using aa
  have n5:d= #[]:=by simpa using ae
  subst gw n5;unfold Oper.wp;simp only[execOp,ao,resolve,he,Deferred.ofValue,Sem.run_bind,Sem.run_pure,Result.andThen_ok,invoke,Array.empty_append,Array.append_empty];rw[Dc gE]
  have hlen:xs.toList.length=args.length:=by have:=congrArg List.length hX;simpa using this
  have hg:=hc w β ro (xs.map a.eval) (by simpa using hlen) (fun i y ay=>by
   have hi:(xs.toList.map (fun y=>hJ s.heap (aM G s y)))[i]? =some y:=by rw[hX];exact ay
   rw[List.getElem?_map]at hi
   cases Ks:xs.toList[i]? with
   |none=>simp[Ks]at hi
   |some z=>
    simp[Ks]at hi
    have ax:=zdk h.heap (h.eval z)
    rw[hi]at ax
    have zdn:xs[i]? =some z:=by simpa using Ks
    have dU:(xs.map a.eval).getD i undef=a.eval z:=by simp[zdn]
    rw[dU]
    exact nC ax (mO oJ ay)) ⟨by simp[aG],by simp[aG],fun b _ ⟨_,_,ah,_⟩=>by simp[aG]at ah,h.heap.lt⟩ h.h7 (by simp[aG])
  refine Calls.mono hg fun e w' aN=>?_
  obtain⟨v,eV,fI,dN,ro',cT,rfl,zdo,dD,hL,cL⟩:=aN;obtain⟨rfl,rfl⟩:=fS eV fI zdo
  have kT: ∀b,¬Own ([]:Heap) β b:=fun b ⟨_,_,ah,_⟩=>by simp[aG]at ah
  have lu: ∀b,b<w.heap.size→w'.heap[b]? =w.heap[b]? :=fun b ad=>cL.frame b ad (kT b)
  have q0:=dD.lower Kp
  have fh:=h.heap
  have Kt:=fun id o ah=>h.trans.new id o ah
  have cl: ∀b,ro b→w'.heap[b]? =w.heap[b]? :=fun b ad=>lu b (h.heap.lt b ad)
  have nz: ∀k p b,aG s.heap k=some p→p.live=true→b9 (β k)=some b→b<w.heap.size:=fun k p b aj ak bm=>(h.heap.dh k p aj).hG ak bm
  have De: ∀k p b,aG fI k=some p→p.live=true→b9 (dN k)=some b→w.heap.size≤b:=by
   intro k p b aj ak bm
   rcases cL.gZ b ⟨k,p,aj,ak,bm⟩with hc|hc
   ·exact absurd hc (kT b)
   ·exact hc

  have look: ∀id,aG (kS s.next fI++s.heap) id=if s.next≤id then(aG fI (id-s.next)).map (kt s.next)else aG s.heap id:=by
   intro id;rw[Rz,zu]
   by_cases hi:s.next≤id
   ·simp only[hi,if_true]
    cases ai:aG fI (id-s.next)with
    |some p=>simp
    |none=>
     simp
     cases aK:aG s.heap id with
     |none=>rfl
     |some p=>have:=Kt _ _ aK;omega
   ·simp[hi]
  have up: ∀x c,bF w ro s.heap β s.next x c→bF w' (fun b=>ro b∨ro' b) (kS s.next fI++s.heap) (fun k=>if s.next≤k then dN (k-s.next)else β k) (s.next+K) x c:=by
   intro x c hx
   induction hx with
   |aw x c hx=>exact .aw x c (hx.keep cl fun _ h=>.inl h)
   |agg cs c ai _ a7=>exact .agg cs c ai a7
   |tuple cs c ai _ a7=>exact .tuple cs c ai a7
   |ptr k off c ar ak=>
    have aj: ¬s.next≤k:=by omega
    exact .ptr k off c (by omega) fun t cs bz=>by rw[look,if_neg aj]at bz;simp only[aj,if_false];exact ak t cs bz
   |dC k off c ar ak=>
    have aj: ¬s.next≤k:=by omega
    exact .dC k off c (by omega) fun t cs bz=>by rw[look,if_neg aj]at bz;simp only[aj,if_false];exact ak t cs bz
   |c6 k i off c ar ak=>
    have aj: ¬s.next≤k:=by omega
    exact .c6 k i off c (by omega) fun z t n es bz=>by rw[look,if_neg aj]at bz;simp only[aj,if_false];exact ak z t n es bz
   |aR k c ar ak=>
    have aj: ¬s.next≤k:=by omega
    exact .aR k c (by omega) fun z t n es bz=>by rw[look,if_neg aj]at bz;simp only[aj,if_false];exact ak z t n es bz
   |fn f p q c d aa ae _ _ ha hb=>exact .fn f p q c d aa ae ha hb
   |ref k c ar ak=>
    have aj: ¬s.next≤k:=by omega
    exact .ref k c (by omega) fun bU bz=>by rw[look,if_neg aj]at bz;simp only[aj,if_false];exact ak bU bz
   |top c=>exact .top c
  have RA: ∀b,ro' b→ro b∨w.heap.size≤b:=fun b ad=>by
   rcases cL.jk b ad with h|h|h
   ·exact .inl h
   ·exact absurd h (kT b)
   ·exact .inr h
  refine Kq _ _ ⟨fun k=>if s.next≤k then dN (k-s.next)else β k,fun b=>ro b∨ro' b,df.put (s:={s with heap:=kS s.next fI++s.heap,next:=s.next+K}) ⟨h.defers,h.size,fun i x hx=>up _ _ (h.slot i x hx),⟨fun id p ah=>?_,?_,?_,?_⟩,?_,?_,h.base⟩ o.dst _ _ ?_⟩ lu
  ·simp only[look]at ah
   by_cases hi:s.next≤id
   ·simp only[hi,if_true]at ah
    cases ai:aG fI (id-s.next)with
    |none=>simp[ai]at ah
    |some q=>
     simp[ai]at ah;subst ah;obtain⟨_,zv⟩:=qZ Dd ai
     have gL:=hL.dh _ q ai
     cases gL with
     |box t cs b arr aE bo cv eC=>
      refine .box t _ b arr (by simp[hi,aE]) bo (by rw[wq];exact cv) fun j x af=>?_
      obtain⟨y,ay,rfl⟩:=wu s.next af;exact bF.shift ((eC j y ay).lower (qY (zv t cs rfl) ay)) (fun _ h=>.inr h) Kt
     |row t n es xs aE bo cv=>exact .row t n es xs (by simp only[hi,if_true];exact aE) bo fun j x af=>(cv j x af).keep (fun _ _=>rfl) fun _ h=>.inr h
     |gi t n es aE=>exact .gi t n es (by simp only[hi,if_true];exact aE.keep (fun _ _=>rfl) fun _ h=>.inr h)
     |bT bU b o aE bo cv=>exact .bT bU b o (by simp only[hi,if_true];exact aE) bo (by simp only[hi,if_true];exact bU.mono _ _ _ _ (fun x c h=>h.keep (fun _ _=>rfl) fun _ h=>.inr h) cv)
   ·simp only[hi,if_false]at ah
    have gL:=h.heap.dh id p ah
    cases gL with
    |box t cs b arr aE bo cv eC=>
     have hH:=nz id _ b ah rfl (by rw[aE];rfl)
     exact .box t cs b arr (by simp only[hi,if_false];exact aE) ((lu b hH).trans bo) cv fun j x af=>up _ _ (eC j x af)
    |row t n es xs aE bo cv=>
     exact .row t n es xs (by simp only[hi,if_false];exact aE.keep (fun b ad=>lu b (aE.hG ad).1) cL.size) bo fun j x af=>(cv j x af).keep cl fun _ h=>.inl h
    |gi t n es aE=>exact .gi t n es (by simp only[hi,if_false];exact aE.keep cl fun _ h=>.inl h)
    |bT bU b o aE bo cv=>exact .bT bU b o (by simp only[hi,if_false];exact aE) ((lu b (Array.getElem?_eq_some_iff.1 bo).1).trans bo) (by simp only[hi,if_false];exact bU.mono _ _ _ _ (fun x c h=>h.keep cl fun _ h=>.inl h) cv)
  ·intro id gv p gb b ah dX ak gK bm et
   rw[look]at ah dX
   by_cases hi:s.next≤id
   ·simp only[hi,if_true]at ah bm
    cases ai:aG fI (id-s.next)with
    |none=>simp[ai]at ah
    |some q=>
     have qR:q.live=true:=by simp[ai]at ah;subst ah;cases q<;>first|rfl|exact ak
     have h4:=De _ q b ai qR bm
     by_cases hh:s.next≤gv
     ·simp only[hh,if_true]at dX et
      cases e2:aG fI (gv-s.next)with
      |none=>simp[e2]at dX
      |some q'=>
       have zj:q'.live=true:=by simp[e2]at dX;subst dX;cases q'<;>first|rfl|exact gK
       have:=hL.inj _ _ q q' b ai e2 qR zj bm et
       omega
     ·simp only[hh,if_false]at dX et
      have:=nz gv gb b dX gK et
      omega
   ·simp only[hi,if_false]at ah bm
    have Ku:=nz id p b ah ak bm
    by_cases hh:s.next≤gv
    ·simp only[hh,if_true]at dX et
     cases e2:aG fI (gv-s.next)with
     |none=>simp[e2]at dX
     |some q'=>
      have zj:q'.live=true:=by simp[e2]at dX;subst dX;cases q'<;>first|rfl|exact gK
      have h4:=De _ q' b e2 zj et
      omega
    ·simp only[hh,if_false]at dX et
     exact h.heap.inj id gv p gb b ah dX ak gK bm et
  ·rintro b ad ⟨id,p,ah,ak,bm⟩
   rw[look]at ah
   by_cases hi:s.next≤id
   ·simp only[hi,if_true]at ah bm
    cases ai:aG fI (id-s.next)with
    |none=>simp[ai]at ah
    |some q=>
     have qR:q.live=true:=by simp[ai]at ah;subst ah;cases q<;>first|rfl|exact ak
     have h4:=De _ q b ai qR bm
     rcases ad with ad|ad
     ·have:=h.heap.lt b ad;omega
     ·exact hL.fk b ad ⟨_,q,ai,qR,bm⟩
   ·simp only[hi,if_false]at ah bm
    have Ku:=nz id p b ah ak bm
    rcases ad with ad|ad
    ·exact h.heap.fk b ad ⟨id,p,ah,ak,bm⟩
    ·rcases RA b ad with hc|hc
     ·exact h.heap.fk b hc ⟨id,p,ah,ak,bm⟩
     ·omega
  ·intro b ad
   rcases ad with ad|ad
   ·exact Nat.lt_of_lt_of_le (h.heap.lt b ad) cL.size
   ·exact hL.lt b ad
  ·exact h.h7.keep cl fun _ h=>.inl h
  ·have t:=h.trans
   refine⟨cL.os.trans t.os,cL.tape.trans t.tape,cL.output.trans t.output,Nat.le_trans t.size cL.size,fun b hH gk=>(lu b (Nat.lt_of_lt_of_le hH t.size)).trans (t.frame b hH gk),?_,fun b ad=>.inl (t.jZ b ad),?_,?_,?_,?_⟩
   ·intro b ad
    rcases ad with ad|ad
    ·exact t.jk b ad
    ·rcases RA b ad with hc|hc
     ·exact t.jk b hc
     ·exact .inr (.inr (Nat.le_trans t.size hc))
   ·rintro b ⟨id,p,ah,ak,bm⟩
    rw[look]at ah
    by_cases hi:s.next≤id
    ·simp only[hi,if_true]at ah bm
     cases ai:aG fI (id-s.next)with
     |none=>simp[ai]at ah
     |some q=>
      have qR:q.live=true:=by simp[ai]at ah;subst ah;cases q<;>first|rfl|exact ak
      exact .inr (Nat.le_trans t.size (De _ q b ai qR bm))
    ·simp only[hi,if_false]at ah bm
     exact t.gZ b ⟨id,p,ah,ak,bm⟩
   ·intro id bh p ah
    have aa:=h.base
    have hi: ¬s.next≤id:=by omega
    rw[look,if_neg hi]at ah;simp only[hi,if_false];exact t.dM id bh p ah
   ·intro id p ah
    simp only[look]at ah
    by_cases hi:s.next≤id
    ·simp only[hi,if_true]at ah
     cases ai:aG fI (id-s.next)with
     |none=>simp[ai]at ah
     |some q=>
      have:=(qZ Dd ai).1
      show id<s.next+K;omega
    ·show id<s.next+K
     omega
   ·have:=h.base
    show E.n≤s.next+K;omega
  ·exact bF.shift q0 (fun _ h=>.inr h) Kt
theorem dS.call{o:Oper}{x:Operand}{xs:Array Operand}{ts:Array TypeId}(ao:o.op= .call {callee:=.value x,args:=xs,argTypes:=ts}){f:FuncId}(hx:aM G s x= .fn (.func f) [] [])
 (gE:mP P f=true){args:List aF}(hX:xs.toList.map (fun y=>hJ s.heap (aM G s y))=args)(oJ:e8 args=true){R:aF→Heap→Prop}(hc:dJ P G f args [] 0 R){K:Nat}{r:aF}{b1:Heap}
 (fS: ∀eV fI,R eV fI→eV=r∧fI=b1)(Kp:gD K r=true)(Dd:kR K b1=true)(ad:s.base≤s.next):
 dS P G o s ({s with heap:=kS s.next b1++s.heap,next:=s.next+K}.put o.dst (pV s.next r)):=(l1.call ao hx gE hX oJ hc fS Kp Dd ad).op
end
end Go.aO
namespace Go.aO
open Go
section
variable {P:Program} {G:bd} {o:Oper} {s:aU}
theorem cZ.RB{w:World}{ro:Nat→Prop}{n:Nat}{es:List (List bb)}{c:Value}(h:cZ w ro (.aR n es) c): ∃b cap,c= .slice b es.length cap:=by
 cases h with
 |aR _ _ b cap=>exact⟨b,cap,rfl⟩
def kU(σ:Heap):aF→Option Nat
 | .aw (.aR _ es)=>some es.length
 | .aw (.v (.slice none 0 0))=>some 0
 | .aR id=>match aG σ id with
  |some (.row _ _ _ es)=>some es.length
  |_=>none
 |_=>none
theorem zdp{w:World}{ro:Nat→Prop}{σ:Heap}{β:Nat→Value}{N:Nat}(bk:gY w ro σ β N){x:aF}{c:Value}(h:bF w ro σ β N x c){m:Nat}(hm:kU σ x=some m): ∃b cap,c= .slice b m cap:=by
 cases h with
 |aw x c hx=>
  cases hx with
  |v _ aa=>
   cases c with
   |slice a l hW=>
    cases a with
    |none=>
     cases l with
     |zero=>
      cases hW with
      |zero=>simp[kU]at hm;subst hm;exact⟨_,_,rfl⟩
      |succ=>simp[kU]at hm
     |succ=>simp[kU]at hm
    |some=>simp[kU]at hm
   |_=>simp[kU]at hm
  |ptr=>simp[kU]at hm
  |mp=>simp[kU]at hm
  |er=>simp[kU]at hm
  |li=>simp[kU]at hm
  |aR n es b cap c aa ae au aW bN=>
   simp only[kU,Option.some.injEq]at hm;subst hm;exact⟨b,cap,rfl⟩
 |aR id c ar ak=>
  simp only[kU]at hm
  split at hm
  ·rename_i z t n es ah
   simp only[Option.some.injEq]at hm;subst hm;rw[ak z t n es ah]
   have:=bk.dh id _ ah
   cases this with
   |row _ _ _ xs aa=>
    rcases aa.2 with⟨⟨_,ax,_⟩,aS⟩|⟨g,cap,cur,ax,_⟩
    ·rw[ax,aS];exact⟨_,_,rfl⟩
    ·rw[ax];exact⟨_,_,rfl⟩
   |gi _ _ _ aa=>exact aa.RB
  ·cases hm
 |_=>simp[kU]at hm
def isSlice(P:Program)(t:TypeId):Bool:=
 match P.underlying t with
 |some (.slice _)=>true
 |_=>false
theorem Kv(x:Operand)(t:TypeId)(ao:o.op= .call {callee:=.builtin .len,args:=#[x],argTypes:=#[t]})(aK:isSlice P t=true){m:Nat}(hm:kU s.heap (aM G s x)=some m):
 cX P G o s (.aw (.v (.int .i64 (m:Int)))):=
 fun _ a w β ro ag=>by
  obtain⟨b,cap,hc⟩:=zdp ag.heap (ag.eval x) hm;unfold isSlice at aK
  split at aK
  ·rename_i e hu
   refine⟨.int .i64 m,?_,.fG rfl⟩
   simp[execOp,ao,resolve,invoke,builtin,hc,Builtin.len_,run_underlying hu,goInt]
  ·cases aK
theorem Kw(x:Operand)(t:TypeId)(ao:o.op= .call {callee:=.builtin .len,args:=#[x],argTypes:=#[t]})(aK:P.underlying t=some .string){b:ByteArray}(hx:aM G s x= .aw (.v (.string b))):
 cX P G o s (.aw (.v (.int .i64 (b.size:Int)))):=
 fun _ a w β ro ag=>by
  refine⟨.int .i64 b.size,?_,.fG rfl⟩
  simp[execOp,ao,resolve,invoke,builtin,ag.ee hx,Builtin.len_,run_underlying aK,goInt]
def Df(P:Program)(t:TypeId):Option Nat:=
 match P.underlying t with
 |some (.array n _)=>some n
 |some (.pointer a)=>match P.underlying a with
  |some (.array n _)=>some n
  |_=>none
 |_=>none
theorem RD(x:Operand)(t:TypeId)(ao:o.op= .call {callee:=.builtin .len,args:=#[x],argTypes:=#[t]}){n:Nat}(aK:Df P t=some n):
 cX P G o s (.aw (.v (.int .i64 (n:Int)))):=
 fun _ a w β ro ag=>by
  refine⟨.int .i64 n,?_,.fG rfl⟩
  unfold Df at aK
  split at aK
  ·rename_i m e hu
   simp only[Option.some.injEq]at aK;subst aK;simp[execOp,ao,resolve,invoke,builtin,Builtin.len_,run_underlying hu,goInt]
  ·rename_i p hu
   split at aK
   ·rename_i m e zdq
    simp only[Option.some.injEq]at aK;subst aK;simp[execOp,ao,resolve,invoke,builtin,Builtin.len_,run_underlying hu,run_underlying zdq,goInt]
   ·cases aK
  ·cases aK
def j3(P:Program)(t:TypeId):Option Nat:=
 match P.underlying t with
 |some (.slice e)=>(P.info? e).map (·.size)
 |_=>none
theorem zw{t n:Nat}(h:j3 P t=some n): ∃e,P.underlying t=some (.slice e)∧∀w,(sizeOf e).run P w= .ok n w:=by
 unfold j3 at h
 split at h
 ·rename_i e hu
  cases hi:P.info? e with
  |none=>simp[hi]at h
  |some i=>
   simp[hi]at h;subst h;exact⟨e,hu,fun w=>by simp[sizeOf,typeInfo,hi]⟩
 ·cases h
def l8(σ:Heap)(n j:Nat):aF→Option aF
 | .aw (.aR m es)=>if m=n then match es[j]? with
  |some e=>some (.aw (.ptr e))
  |none=>none
  else none
 | .aR id=>match aG σ id with
  |some (.row false _ m es)=>if m=n∧j<es.length then some (.c6 id j 0)else none
  |some (.row true _ m es)=>if m=n then match es[j]? with
   |some e=>some (.aw (.ptr e))
   |none=>none
   else none
  |_=>none
 |_=>none
theorem cZ.elem{w:World}{ro:Nat→Prop}{n:Nat}{es:List (List bb)}{c:Value}(h:cZ w ro (.aR n es) c){j:Nat}{e:List bb}(af:es[j]? =some e):
 ∃a cap,c= .slice (some a) es.length cap∧cZ w ro (.ptr e) (.pointer (some (a.add (j*n)))):=by
 cases h with
 |aR _ _ b cap f aa ae au aW bN=>
  have cU:j<es.length:=(List.getElem?_eq_some_iff.1 af).1
  obtain⟨a,rfl,hc⟩:=aW (by omega)
  have ny:e.length=n:=au e (List.mem_of_getElem? af)
  have kH:j*n+n≤es.length*n:=by rw[←Nat.succ_mul];exact Nat.mul_le_mul_right n cU
  refine⟨a,cap,rfl,.ptr _ _ (fun k=>f (j*n+k)) (fun k x aj=>?_) (fun k x aj=>?_)⟩
  ·have oK:k<n:=by have:=(List.getElem?_eq_some_iff.1 aj).1;omega
   rw[pP,zd];exact hc _ (by omega)
  ·have oK:k<n:=by have:=(List.getElem?_eq_some_iff.1 aj).1;omega
   exact bN _ _ (by rw[qP au af k oK];exact aj)
theorem RE{w:World}{ro:Nat→Prop}{σ:Heap}{β:Nat→Value}{N:Nat}(bk:gY w ro σ β N){x:aF}{c:Value}(h:bF w ro σ β N x c){n j:Nat}{p:aF}(ak:l8 σ n j x=some p):
 ∃a len cap,c= .slice (some a) len cap∧j<len∧bF w ro σ β N p (.pointer (some (a.add (j*n)))):=by
 cases h with
 |aw x c hx=>
  cases x with
  |v=>simp[l8]at ak
  |ptr=>simp[l8]at ak
  |mp=>simp[l8]at ak
  |er=>simp[l8]at ak
  |li=>simp[l8]at ak
  |aR m es=>
   simp only[l8]at ak
   split at ak
   ·rename_i hm
    subst hm
    split at ak
    ·rename_i e he
     simp only[Option.some.injEq]at ak;subst ak;obtain⟨a,cap,hc,ag⟩:=hx.elem he;exact⟨a,es.length,cap,hc,(List.getElem?_eq_some_iff.1 he).1,.aw _ _ ag⟩
    ·cases ak
   ·cases ak
 |aR id c ar aN=>
  simp only[l8]at ak
  split at ak
  ·rename_i t m es ah
   split at ak
   ·rename_i hm
    obtain⟨rfl,af⟩:=hm;simp only[Option.some.injEq]at ak;subst ak
    have dr:=bk.dh id _ ah
    cases dr with
    |row _ _ _ xs aa=>
     rcases aa.2 with⟨_,aS⟩|⟨g,cap,cur,ax,_⟩
     ·omega
     ·rw[aN _ _ _ _ ah,ax]
      refine⟨_,_,_,rfl,af,.c6 _ _ _ _ ar fun iA bI cT dR dX=>?_⟩
      rw[ah]at dX;simp only[Option.some.injEq,ei.row.injEq]at dX;obtain⟨_,_,rfl,_⟩:=dX;exact⟨g,_,_,ax,by rw[addLit];simp⟩
   ·cases ak
  ·rename_i t m es ah
   split at ak
   ·rename_i hm
    subst hm
    split at ak
    ·rename_i e he
     simp only[Option.some.injEq]at ak;subst ak
     have dr:=bk.dh id _ ah
     cases dr with
     |gi _ _ _ aa=>
      obtain⟨a,cap,hc,ag⟩:=aa.elem he;exact⟨a,es.length,cap,by rw[aN _ _ _ _ ah,hc],(List.getElem?_eq_some_iff.1 he).1,.aw _ _ ag⟩
    ·cases ak
   ·cases ak
  ·cases ak
 |_=>simp[l8]at ak
theorem RF(t:TypeId)(x i:Operand)(ao:o.op= .indexAddr t x i){n:Nat}(aK:j3 P t=some n){k:IntKind}{j:Nat}(hi:aM G s i= .aw (.v (.int k (j:Int)))){p:aF}(ak:l8 s.heap n j (aM G s x)=some p):
 cX P G o s p:=
 fun _ a w β ro ag=>by
  obtain⟨c8,len,cap,hc,af,dD⟩:=RE ag.heap (ag.eval x) ak;obtain⟨e,hu,bY⟩:=zw aK;refine⟨_,?_,dD⟩
  have oj:(0:Int)≤j∧(j:Int)<len:=⟨by omega,by omega⟩
  simp[execOp,ao,hc,ag.ee hi,Instr.indexAt,asIntOf,run_underlying hu,af,bY]
def ug(P:Program)(t:TypeId):Option (Nat × Nat):=
 match P.underlying t with
 |some (.array n e)=>(P.info? e).map fun i=>(n,i.size)
 |_=>none
theorem Kx(t:TypeId)(x i:Operand)(ao:o.op= .indexAddr t x i){len n:Nat}(aK:ug P t=some (len,n)){k:IntKind}{j:Nat}(hi:aM G s i= .aw (.v (.int k (j:Int))))(af:j<len)
 {cs:List aF}(dL:fr s.heap (aM G s x)=some cs){p:aF}(ak:iQ (j*n) (aM G s x)=some p):
 cX P G o s p:=
 fun _ a w β ro ag=>by
  obtain⟨c8,hc,dD⟩:=QY ak dL (ag.eval x);unfold ug at aK
  split at aK
  ·rename_i m e hu
   cases uh:P.info? e with
   |none=>simp[uh]at aK
   |some zdr=>
    simp[uh]at aK;obtain⟨rfl,rfl⟩:=aK;refine⟨_,?_,dD⟩
    simp[execOp,ao,hc,ag.ee hi,Instr.indexAt,asIntOf,run_underlying hu,Instr.sureAddr,af,sizeOf,typeInfo,uh]
  ·cases aK
theorem RG(t:TypeId)(x i:Operand)(ao:o.op= .index t x i)(aK:P.underlying t=some .string){k:IntKind}{j:Nat}(hi:aM G s i= .aw (.v (.int k (j:Int)))){b:ByteArray}(hx:aM G s x= .aw (.v (.string b)))
 {u:UInt8}(hu:b.data.toList[j]? =some u):cX P G o s (.aw (.v (.int .u8 (u.toNat:Int)))):=
 fun _ a w β ro ag=>by
  have af:b[j]? =some u:=by
   have aa:j<b.size:=by have:=(List.getElem?_eq_some_iff.1 hu).1;simpa using this
   rw[ByteArray.getElem?_lt' b j aa]
   rw[List.getElem?_eq_some_iff]at hu
   obtain⟨_,ae⟩:=hu;simp only[Option.some.injEq];rw[←ae];rfl
  exact⟨_,by simp[execOp,ao,ag.ee hx,ag.ee hi,Instr.index,asIntOf,run_underlying aK,af],.fG rfl⟩
def wv(P:Program)(t:TypeId)(f:Nat):Option (Nat × Option Nat):=
 match P.underlying t with
 |some (.struct fs)=>match fs[f]? with
  |some fd=>if scalar P fd.type then some (fd.offset,none)else match l3 P fd.type with
   |some n=>some (fd.offset,some n)
   |none=>none
  |none=>none
 |_=>none
theorem RH(t:TypeId)(x:Operand)(f:Nat)(ao:o.op= .field t x f){off:Nat}(aK:wv P t f=some (off,none)){cs:List aF}(hx:aM G s x= .agg cs){v:aF}(ax:cs[off]? =some v):
 cX P G o s v:=
 fun _ a w β ro ag=>by
  have h:=ag.eval x
  rw[hx]at h;generalize he:a.eval x=c at h
  cases h with
  |agg _ c ai hc=>
   have bR:off<c.size:=by have:=(List.getElem?_eq_some_iff.1 ax).1;omega
   unfold wv at aK
   split at aK
   ·rename_i fs hu
    split at aK
    ·rename_i fd hf
     split at aK
     ·rename_i hsc
      simp only[Option.some.injEq,Prod.mk.injEq,and_true]at aK;subst aK;refine⟨c[fd.offset],?_,by simpa[bR]using hc _ v ax⟩
      simp[execOp,ao,he,Instr.field,run_underlying hu,hf,asAgg,part,zf hsc,bR]
     ·split at aK
      ·simp at aK
      ·cases aK
    ·cases aK
   ·cases aK
theorem RI(t:TypeId)(x:Operand)(f:Nat)(ao:o.op= .field t x f){off n:Nat}(aK:wv P t f=some (off,some n)){cs:List aF}(hx:aM G s x= .agg cs)(hn:off+n≤cs.length):
 cX P G o s (.agg ((cs.drop off).take n)):=
 fun _ a w β ro ag=>by
  have h:=ag.eval x
  rw[hx]at h;generalize he:a.eval x=c at h
  cases h with
  |agg _ c ai hc=>
   unfold wv at aK
   split at aK
   ·rename_i fs hu
    split at aK
    ·rename_i fd hf
     split at aK
     ·simp at aK
     ·split at aK
      ·rename_i m bZ
       simp only[Option.some.injEq,Prod.mk.injEq]at aK;obtain⟨rfl,rfl⟩:=aK;obtain⟨g1,g2⟩:=C3 bZ w;refine⟨.agg (c.extract fd.offset (fd.offset+m)),?_,.agg _ _ (by simp;omega) fun j y af=>?_⟩
       ·simp[execOp,ao,he,Instr.field,run_underlying hu,hf,asAgg,part,g1,g2]
       ·rw[List.getElem?_take]at af
        split at af
        ·rename_i RJ
         rw[List.getElem?_drop]at af
         have:=hc _ y af
         have aa:fd.offset+j<c.size:=by omega
         have ae:j<(c.extract fd.offset (fd.offset+m)).size:=by simp;omega
         simp only[Array.getD,ae,dif_pos];simpa[aa]using this
        ·cases af
      ·cases aK
    ·cases aK
   ·cases aK
def places(P:Program)(t:TypeId):Option (Nat→Option (Nat × Nat)):=
 match P.underlying t with
 |some (.struct fs)=>if fs.toList.all fun f=>(P.info? f.type).isSome then some fun i=>(fs.toList.map fun f=>(f.offset,((P.info? f.type).map (·.size)).getD 0))[i]? else none
 |some (.array _ e)=>match P.info? e with
  |some inf=>some fun i=>some (i*inf.size,inf.size)
  |none=>none
 |_=>none
def j4(place:Nat→Option (Nat × Nat)):List aF→List (Nat × aF)→Option (List aF)
 |cs,[]=>some cs
 |cs,(i,v)::rest=>match place i with
  |some (off,size)=>if(c1 v).length=size∧off+size≤cs.length then j4 place (ej cs off (c1 v)) rest else none
  |none=>none
theorem RK(off:Nat): ∀(vs:List Value) (k:Nat) (cs:Array Value),off+k+vs.length≤cs.size→
 ((vs.zipIdx k).foldl (fun(cs:Array Value) (x:Value × Nat)=>cs.setIfInBounds (off+x.2) x.1) cs).toList=ej cs.toList (off+k) vs
 |[],k,cs,h=>by simp[ej]
 |v::vs,k,cs,h=>by
  simp only[List.zipIdx_cons,List.foldl_cons];rw[RK off vs (k+1) (cs.setIfInBounds (off+k) v) (by simp at h⊢;omega)]
  have e:=list_seg_step cs.toList (off+k) v vs (by simp at h⊢;omega)
  simp only[ej,Array.toList_setIfInBounds,←Nat.add_assoc]at*;simp only[List.append_assoc]at e;rw[e];simp[Nat.add_assoc]
theorem Dg{place place':Nat→Option (Nat × Nat)}(q1: ∀i p,place i=some p→place' i=some p){w:World}{ro:Nat→Prop}{σ:Heap}{β:Nat→Value}{N:Nat}(bk:gY w ro σ β N):
    ∀{ps:List (Nat × aF)} {qs:List (Nat × Value)} {cs ds:List aF} {xs:Array Value},j4 place cs ps=some ds→ps.map (·.1)=qs.map (·.1)→(∀(j:Nat) (p:Nat × aF) (q:Nat × Value),ps[j]? =some p→qs[j]? =some q→bF w ro σ β N p.2 q.2∧(c1 p.2).all (eF σ)=true)→
    xs.size=cs.length→(∀j x,cs[j]? =some x→bF w ro σ β N x (xs.getD j undef))→
    ∃ys,Instr.fill place' xs qs=some ys∧ys.size=ds.length∧∀j x,ds[j]? =some x→bF w ro σ β N x (ys.getD j undef)
  |[],qs,cs,ds,xs,hf,aj,_,ai,hx=>by
    simp[j4]at hf;subst hf
    have:qs=[]:=by cases qs with
      |nil=>rfl
      |cons=>simp at aj
    subst this;exact⟨xs,by simp[Instr.fill],ai,hx⟩
  |(i,v)::ps,[],cs,ds,xs,hf,aj,_,ai,hx=>by simp at aj
  |(i,v)::ps,(zx,u)::qs,cs,ds,xs,hf,aj,ag,ai,hx=>by
    simp only[List.map_cons,List.cons.injEq]at aj;obtain⟨rfl,aj⟩:=aj;simp only[j4]at hf
    split at hf
    · rename_i off size ak
      split at hf
      · rename_i hc
        obtain⟨Dh,Ky⟩:=hc
        have dD:bF w ro σ β N v u:=(ag 0 (i,v) (i,u) rfl rfl).1
        have ec:(c1 v).all (eF σ)=true:=(ag 0 (i,v) (i,u) rfl rfl).2
        obtain⟨g1,g2,_⟩:=dD.c1 ec bk
        have RL:=RK off u.cells.toList 0 xs (by simp;omega)
        simp only[Nat.add_zero]at RL
        have a7:=Dg q1 bk (ps:=ps) (qs:=qs) (cs:=ej cs off (c1 v)) (ds:=ds) (xs:=(ej xs.toList off u.cells.toList).toArray) hf aj (fun j p q aa ae=>ag (j+1) p q aa ae)
          (by rw[List.size_toArray,pQ _ _ _ (by simp;omega),pQ _ _ _ (by omega)];simpa using ai) (fun j x af=>by
            have:=Ke (bF w ro σ β N) undef (cs:=cs) (vs:=c1 v) (xs:=xs.toList) (ys:=u.cells.toList) (off:=off) (by simp;omega) (by simp;omega) (by omega)
              (fun j x af=>by have:=hx j x af;simpa[Array.getD_eq_getD_getElem?,List.getD]using this) (fun j x af=>by have:=g2 j x af;simpa[Array.getD_eq_getD_getElem?,List.getD]using this) j x af
            simpa[Array.getD_eq_getD_getElem?,List.getD]using this)
        obtain⟨ys,aa,ae,au⟩:=a7;refine⟨ys,?_,ae,au⟩
        rw[Instr.fill.eq_2,q1 _ _ ak];simp only;rw[if_neg (by simp;omega)]
        have zds:Array.foldl (fun cs x=>match x with
            |(c,j)=>cs.setIfInBounds (off+j) c) xs u.cells.zipIdx=(ej xs.toList off u.cells.toList).toArray:=by
          apply Array.ext';rw[←RL,←Array.foldl_toList];simp
        rw[zds];exact aa
      · cases hf
    · cases hf
theorem run_places(w:World): ∀l:List Field,(l.all fun f=>(P.info? f.type).isSome)=true→(l.mapM (fun f=>do
    let n ←sizeOf f.type
    pure (f.offset,n):Field→Sem (Nat × Nat))).run P w= .ok (l.map fun f=>(f.offset,((P.info? f.type).map (·.size)).getD 0)) w
  |[],_=>by simp
  |f::r,h=>by
    simp only[List.all_cons,Bool.and_eq_true]at h
    have a7:=run_places w r h.2
    cases hi:P.info? f.type with
    |none=>simp[hi]at h
    |some inf=>
      have aa:(sizeOf f.type).run P w= .ok inf.size w:=by simp[sizeOf,typeInfo,hi]
      simp only[List.mapM_cons,Sem.run_bind,aa,Result.andThen_ok,Sem.run_pure,a7];simp[hi]
theorem run_build{t:TypeId}{pl:Nat→Option (Nat × Nat)}(ak:places P t=some pl){zs:List Value}(aS:zeroCells P t=some zs){parts:Array (Nat × Value)}{ys:Array Value}(hf:Instr.fill pl zs.toArray parts.toList=some ys)(w:World):
    (Instr.build t parts).run P w= .ok (.agg ys) w:=by
  obtain⟨z,j2,oF,_⟩:=zl aS w;unfold places at ak
  split at ak
  · rename_i fs hu
    split at ak
    · rename_i ec
      simp only[Option.some.injEq]at ak;subst ak
      have aa:=run_places w fs.toList ec
      have ae:(fs.mapM (fun f=>do
          let n ←sizeOf f.type
          pure (f.offset,n):Field→Sem (Nat × Nat))).run P w= .ok (fs.toList.map fun f=>(f.offset,((P.info? f.type).map (·.size)).getD 0)).toArray w:=by
        rw[Array.mapM_eq_mapM_toList];simp only[Sem.run_map,aa];rfl
      simp only[Instr.build,Sem.run_bind,j2,Result.andThen_ok,run_underlying hu,ae,oF]
      have au:(fun(x:Nat)=>(fs.toList.map fun f=>(f.offset,((P.info? f.type).map (·.size)).getD 0)).toArray[x]?)=(fun(i:Nat)=>(fs.toList.map fun f=>(f.offset,((P.info? f.type).map (·.size)).getD 0))[i]?):=by
        funext i;simp
      rw[au,hf];rfl
    · cases ak
  · rename_i n e hu
    split at ak
    · rename_i inf hi
      simp only[Option.some.injEq]at ak;subst ak
      have aa:(sizeOf e).run P w= .ok inf.size w:=by simp[sizeOf,typeInfo,hi]
      simp only[Instr.build,Sem.run_bind,j2,Result.andThen_ok,run_underlying hu,aa,oF,hf];rfl
    · cases ak
  · cases ak
theorem Kz{w:World}{ro:Nat→Prop}{σ:Heap}{β:Nat→Value}{N:Nat}{zs:List Value}(ec:zs.all Value.oneCell'=true): ∀(j:Nat) (x:aF),(zs.map fun z=>aF.aw (.v z))[j]? =some x→bF w ro σ β N x (zs.toArray.getD j undef):=by
 intro j x af
 rw[List.getElem?_map]at af
 cases qS:zs[j]? with
 |none=>simp[qS]at af
 |some y=>
  simp[qS]at af;subst af
  have:y.oneCell'=true:=by
   rw[List.all_eq_true]at ec;exact ec y (List.mem_of_getElem? qS)
  simpa[qS]using bF.aw (w:=w) (ro:=ro) (σ:=σ) (β:=β) (N:=N) _ _ (.v y this)
theorem KA{E:Entry}{a:Act}{w:World}{β:Nat→Value}{ro:Nat→Prop}(ag:df E G s a w β ro){parts:Array (Nat × Operand)}{ps:List (Nat × aF)}(q2:parts.toList.map (fun p=>(p.1,aM G s p.2))=ps)
 (ec:ps.all (fun p=>(c1 p.2).all (eF s.heap))=true):
 ps.map (·.1)=(parts.map fun p=>(p.1,a.eval p.2)).toList.map (·.1)∧
 ∀(j:Nat) (p:Nat × aF) (q:Nat × Value),ps[j]? =some p→(parts.map fun p=>(p.1,a.eval p.2)).toList[j]? =some q→bF w ro s.heap β s.next p.2 q.2∧(c1 p.2).all (eF s.heap)=true:=by
 subst q2
 refine⟨by simp,fun j p q aa ae=>?_⟩
 have ak:(c1 p.2).all (eF s.heap)=true:=by
  rw[List.all_eq_true]at ec;exact ec p (List.mem_of_getElem? aa)
 rw[List.getElem?_map]at aa
 rw[Array.toList_map,List.getElem?_map]at ae
 cases af:parts.toList[j]? with
 |none=>simp[af]at aa
 |some y=>
  simp[af]at aa ae;subst aa ae;exact⟨ag.eval _,ak⟩
theorem RM(t:TypeId)(parts:Array (Nat × Operand))(ao:o.op= .build t parts){pl:Nat→Option (Nat × Nat)}(ak:places P t=some pl){zs:List Value}(aS:zeroCells P t=some zs)(sk:zs.all Value.oneCell'=true)
 {ps:List (Nat × aF)}(q2:parts.toList.map (fun p=>(p.1,aM G s p.2))=ps)(ec:ps.all (fun p=>(c1 p.2).all (eF s.heap))=true){ds:List aF}(hf:j4 pl (zs.map fun z=>.aw (.v z)) ps=some ds):
 cX P G o s (.agg ds):=
 fun _ a w β ro ag=>by
  obtain⟨aa,ae⟩:=KA ag q2 ec;obtain⟨ys,g1,g2,g3⟩:=Dg (place':=pl) (fun _ _ h=>h) ag.heap hf aa ae (xs:=zs.toArray) (by simp) (Kz sk)
  refine⟨.agg ys,?_,.agg _ _ g2 g3⟩
  have ad:=run_build (P:=P) ak aS g1 w
  simp only[execOp,ao,Sem.run_bind]
  erw [ad]
  rfl
end
end Go.aO
namespace Go.aO
open Go
mutual
def dZ(id:Nat):aF→aF
 | .aw x=>.aw x
 | .agg cs=>.agg (ef id cs)
 | .tuple cs=>.tuple (ef id cs)
 | .ptr k off=>if k=id then .top else .ptr k off
 | .dC k off=>if k=id then .top else .dC k off
 | .c6 k i off=>if k=id then .top else .c6 k i off
 | .aR k=>if k=id then .top else .aR k
 | .fn f p q=>.fn f (ef id p) (ef id q)
 | .ref k=>if k=id then .top else .ref k
 | .top=>.top
def ef(id:Nat):List aF→List aF
 |[]=>[]
 |x::r=>dZ id x::ef id r
end
def dz(id:Nat):Heap→Heap
 |[]=>[]
 |(k,.box t cs)::r=>if k=id then dz id r else(k,.box t (ef id cs))::dz id r
 |(k,.row z t n es)::r=>if k=id then dz id r else(k,.row z t n es)::dz id r
 |(k,.bT bU)::r=>if k=id then dz id r else(k,.bT bU)::dz id r
def eu(id:Nat):ei→ei
 | .box t cs=>.box t (ef id cs)
 | .row z t n es=>.row z t n es
 | .bT bU=>.bT bU
theorem hY(d:Nat): ∀(l:List aF),(ef d l).length=l.length
 |[]=>rfl
 |x::r=>by simp[ef,hY d r]
theorem hM(d:Nat): ∀{l:List aF} {j:Nat} {x:aF},(ef d l)[j]? =some x→∃y,l[j]? =some y∧x=dZ d y
 |[],j,x,h=>by simp[ef]at h
 |y::r,j,x,h=>by
  cases j with
  |zero=>simp[ef]at h;exact⟨y,by simp,h.symm⟩
  |succ j=>simp[ef]at h;simpa using hM d h
theorem pW(id:Nat): ∀(σ:Heap) (k:Nat),aG (dz id σ) k=if k=id then none else(aG σ k).map (eu id)
 |[],k=>by simp[dz,aG]
 |(j,.box t cs)::r,k=>by
  have a7:=pW id r k
  by_cases af:j=id
  ·subst af
   by_cases aj:k=j
   ·subst aj;simpa[dz]using a7
   ·simp[dz,aG,a7,aj,Ne.symm aj]
  ·by_cases aj:j=k
   ·subst aj;simp[dz,aG,af,eu]
   ·simp[dz,aG,af,aj,a7]
 |(j,.row z t n es)::r,k=>by
  have a7:=pW id r k
  by_cases af:j=id
  ·subst af
   by_cases aj:k=j
   ·subst aj;simpa[dz]using a7
   ·simp[dz,aG,a7,aj,Ne.symm aj]
  ·by_cases aj:j=k
   ·subst aj;simp[dz,aG,af,eu]
   ·simp[dz,aG,af,aj,a7]
 |(j,.bT bU)::r,k=>by
  have a7:=pW id r k
  by_cases af:j=id
  ·subst af
   by_cases aj:k=j
   ·subst aj;simpa[dz]using a7
   ·simp[dz,aG,a7,aj,Ne.symm aj]
  ·by_cases aj:j=k
   ·subst aj;simp[dz,aG,af,eu]
   ·simp[dz,aG,af,aj,a7]
theorem jo(id:Nat)(o:ei):(eu id o).live=o.live:=by cases o<;>rfl
section
variable {P:Program} {G:bd} {s:aU} {E:Entry} {a:Act} {w w':World} {β:Nat→Value} {ro:Nat→Prop}
theorem df.renew(h:df E G s a w β ro)(id:Nat)(ad:s.base≤id)(bR:id<s.next){t0:TypeId}{n0:Nat}{zy:List (List bb)}(bh:aG s.heap id=some (.row false t0 n0 zy))(o:ei)(val:Value)
 (oC:w'.os=w.os)(oD:w'.tape=w.tape)(kq:w'.output=w.output)(bY:w.heap.size≤w'.heap.size)(hw: ∀b,b<w.heap.size→b9 (β id)≠some b→w'.heap[b]? =w.heap[b]?)
 (gJ: ∀b,b9 val=some b→b9 (β id)=some b∨w.heap.size≤b)(_hlive:o.live=true)
 (dr:kO w' ro ((id,o)::dz id s.heap) (gQ β id val) s.next id o):
 df E G ⟨ef id s.c0,(id,o)::dz id s.heap,s.next,s.base⟩ a w' (gQ β id val) ro:=by
 have cl: ∀b,ro b→w'.heap[b]? =w.heap[b]? :=fun b ag=>hw b (h.heap.lt b ag) fun ad=>h.heap.fk b ag ⟨id,_,bh,rfl,ad⟩
 have ah: ∀k,k≠id→aG ((id,o)::dz id s.heap) k=(aG s.heap k).map (eu id):=fun k aj=>by simp[aG,Ne.symm aj,pW,aj]
 have uc:aG ((id,o)::dz id s.heap) id=some o:=by simp[aG]
 have key: ∀x c,bF w ro s.heap β s.next x c→bF w' ro ((id,o)::dz id s.heap) (gQ β id val) s.next (dZ id x) c:=by
  intro x c hx
  induction hx with
  |aw x c hx=>exact .aw x c (hx.keep cl fun _ h=>h)
  |agg cs c ai _ a7=>
   refine .agg _ c (by rw[hY];exact ai) fun j x af=>?_
   obtain⟨y,ay,rfl⟩:=hM id af;exact a7 j y ay
  |tuple cs c ai _ a7=>
   refine .tuple _ c (by rw[hY];exact ai) fun j x af=>?_
   obtain⟨y,ay,rfl⟩:=hM id af;exact a7 j y ay
  |ptr k off c ar ak=>
   simp only[dZ]
   split
   ·exact .top _
   ·rename_i aj
    refine .ptr k off c ar fun t cs bz=>?_
    rw[dc _ _ aj];rw[ah k aj]at bz
    cases ai:aG s.heap k with
    |none=>simp[ai]at bz
    |some p=>
     cases p with
     |box bI cs'=>exact ak bI cs' ai
     |row=>simp[ai,eu]at bz
     |bT=>simp[ai,eu]at bz
  |dC k off c ar ak=>
   simp only[dZ]
   split
   ·exact .top _
   ·rename_i aj
    refine .dC k off c ar fun t cs bz=>?_
    rw[dc _ _ aj];rw[ah k aj]at bz
    cases ai:aG s.heap k with
    |none=>simp[ai]at bz
    |some p=>
     cases p with
     |box bI cs'=>exact ak bI cs' ai
     |row=>simp[ai,eu]at bz
     |bT=>simp[ai,eu]at bz
  |c6 k i off c ar ak=>
   simp only[dZ]
   split
   ·exact .top _
   ·rename_i aj
    refine .c6 k i off c ar fun z t n es bz=>?_
    rw[dc _ _ aj];rw[ah k aj]at bz
    cases ai:aG s.heap k with
    |none=>simp[ai]at bz
    |some p=>
     cases p with
     |box bI cs'=>simp[ai,eu]at bz
     |bT=>simp[ai,eu]at bz
     |row iA bI cT dR=>
      simp only[ai,Option.map_some,eu,Option.some.injEq,ei.row.injEq]at bz;obtain⟨rfl,rfl,rfl,rfl⟩:=bz;exact ak _ _ _ _ ai
  |aR k c ar ak=>
   simp only[dZ]
   split
   ·exact .top _
   ·rename_i aj
    refine .aR k c ar fun z t n es bz=>?_
    rw[dc _ _ aj];rw[ah k aj]at bz
    cases ai:aG s.heap k with
    |none=>simp[ai]at bz
    |some p=>
     cases p with
     |box bI cs'=>simp[ai,eu]at bz
     |bT=>simp[ai,eu]at bz
     |row iA bI cT dR=>exact ak _ _ _ _ ai
  |fn f p q c d aa ae _ _ ha hb=>
   refine .fn f _ _ c d (by rw[hY];exact aa) (by rw[hY];exact ae) (fun j x af=>?_) (fun j x af=>?_)
   ·obtain⟨y,ay,rfl⟩:=hM id af
    exact ha j y ay
   ·obtain⟨y,ay,rfl⟩:=hM id af
    exact hb j y ay
  |ref k c ar ak=>
   simp only[dZ]
   split
   ·exact .top _
   ·rename_i aj
    refine .ref k c ar fun bU bz=>?_
    rw[dc _ _ aj];rw[ah k aj]at bz
    cases ai:aG s.heap k with
    |none=>simp[ai]at bz
    |some p=>
     cases p with
     |box=>simp[ai,eu]at bz
     |row=>simp[ai,eu]at bz
     |bT ln=>exact ak ln ai
  |top c=>exact .top c
 have dM: ∀k p,k≠id→aG ((id,o)::dz id s.heap) k=some p→∃q,aG s.heap k=some q∧p=eu id q:=by
  intro k p aj bz;rw[ah k aj]at bz
  cases ai:aG s.heap k with
  |none=>simp[ai]at bz
  |some q=>simp[ai]at bz;exact⟨q,rfl,bz.symm⟩
 refine⟨h.defers,by simpa[hY]using h.size,fun i x hx=>?_,⟨fun k p aj=>?_,fun k bu p gb b aj eA ak gK bm et=>?_,fun b ag=>?_,fun b ag=>Nat.lt_of_lt_of_le (h.heap.lt b ag) bY⟩,
  h.h7.keep cl fun _ h=>h,?_,h.base⟩
 ·obtain⟨y,ay,rfl⟩:=hM id hx
  exact key _ _ (h.slot i y ay)
 ·by_cases bH:k=id
  ·subst bH
   rw[uc]at aj;simp only[Option.some.injEq]at aj;subst aj;exact dr
  ·obtain⟨q,aN,rfl⟩:=dM k p bH aj
   have gL:=h.heap.dh k q aN
   have cb:q.live=true→∀b,b9 (β k)=some b→w'.heap[b]? =w.heap[b]? :=fun ar b bm=>
    hw b (gL.hG ar bm) fun jK=>bH (h.heap.inj k id q _ b aN bh ar rfl bm jK)
   cases gL with
   |box t cs b arr aa ae au aW=>
    refine .box t _ b arr (by rw[dc _ _ bH];exact aa) ((cb rfl b (by rw[aa];rfl)).trans ae) (by rw[hY];exact au) fun j x af=>?_
    obtain⟨y,ay,rfl⟩:=hM id af;exact key _ _ (aW j y ay)
   |row t n es xs aa ae au=>exact .row t n es xs (by rw[dc _ _ bH];exact aa.keep (fun b ad=>cb rfl b ad) bY) ae fun j x af=>(au j x af).keep cl fun _ h=>h
   |gi t n es aa=>exact .gi t n es (by rw[dc _ _ bH];exact aa.keep cl fun _ h=>h)
   |bT bU b o aa ae au=>exact .bT bU b o (by rw[dc _ _ bH];exact aa) ((cb rfl b aa).trans ae) (by rw[dc _ _ bH];exact bU.mono _ _ _ _ (fun x c h=>h.keep cl fun _ h=>h) au)
 ·by_cases bH:k=id
  ·by_cases gM:bu=id
   ·rw[bH,gM]
   ·subst bH
    rw[dT]at bm;rw[dc _ _ gM]at et;obtain⟨q,aN,rfl⟩:=dM bu gb gM eA;rw[jo]at gK
    have ae:=(h.heap.dh bu q aN).hG gK et
    rcases gJ b bm with aa|aa
    ·exact(h.heap.inj bu k q _ b aN bh gK rfl et aa).symm
    ·omega
  ·obtain⟨q,aN,rfl⟩:=dM k p bH aj
   rw[jo]at ak;rw[dc _ _ bH]at bm
   by_cases gM:bu=id
   ·subst gM
    rw[dT]at et
    have ae:=(h.heap.dh k q aN).hG ak bm
    rcases gJ b et with aa|aa
    ·exact h.heap.inj k bu q _ b aN bh ak rfl bm aa
    ·omega
   ·obtain⟨q',ud,rfl⟩:=dM bu gb gM eA
    rw[jo]at gK;rw[dc _ _ gM]at et;exact h.heap.inj k bu q q' b aN ud ak gK bm et
 ·rintro⟨k,p,aj,ak,bm⟩
  by_cases bH:k=id
  ·subst bH
   rw[dT]at bm
   rcases gJ b bm with aa|aa
   ·exact h.heap.fk b ag ⟨k,_,bh,rfl,aa⟩
   ·have:=h.heap.lt b ag;omega
  ·obtain⟨q,aN,rfl⟩:=dM k p bH aj
   rw[jo]at ak;rw[dc _ _ bH]at bm;exact h.heap.fk b ag ⟨k,q,aN,ak,bm⟩
 ·have t:=h.trans
  refine⟨oC.trans t.os,oD.trans t.tape,kq.trans t.output,Nat.le_trans t.size bY,fun b hH gk=>?_,t.jk,t.jZ,?_,fun k aj p bz=>?_,fun k p bz=>?_,t.le⟩
  ·by_cases jK:b9 (β id)=some b
   ·rcases t.gZ b ⟨id,_,bh,rfl,jK⟩with hc|hc
    ·exact absurd hc gk
    ·omega
   ·rw[hw b (Nat.lt_of_lt_of_le hH t.size) jK]
    exact t.frame b hH gk
  ·rintro b ⟨k,p,aj,ak,bm⟩
   by_cases bH:k=id
   ·subst bH
    rw[dT]at bm
    rcases gJ b bm with aa|aa
    ·exact t.gZ b ⟨k,_,bh,rfl,aa⟩
    ·exact .inr (Nat.le_trans t.size aa)
   ·obtain⟨q,aN,rfl⟩:=dM k p bH aj
    rw[jo]at ak;rw[dc _ _ bH]at bm;exact t.gZ b ⟨k,q,aN,ak,bm⟩
  ·have bH:k≠id:=by have:=h.base;omega
   obtain⟨q,aN,rfl⟩:=dM k p bH bz;rw[dc _ _ bH];exact t.dM k aj q aN
  ·by_cases bH:k=id
   ·subst bH;exact bR
   ·obtain⟨q,aN,rfl⟩:=dM k p bH bz
    exact t.new k q aN
def chunk{α:Type}(n:Nat):Nat→List α→List (List α)
 |0,_=>[]
 |k+1,l=>l.take n::chunk n k (l.drop n)
theorem zz{α:Type}(n:Nat): ∀(k:Nat) (l:List α),(chunk n k l).length=k
 |0,_=>rfl
 |k+1,l=>by simp[chunk,zz n k]
theorem RN{α:Type}(n:Nat): ∀(k:Nat) (l:List α),l.length=k*n→∀e∈chunk n k l,e.length=n
 |0,_,_,e,he=>by simp[chunk]at he
 |k+1,l,h,e,he=>by
  rw[Nat.succ_mul]at h;simp only[chunk,List.mem_cons]at he
  rcases he with rfl|he
  ·simp;omega
  ·exact RN n k (l.drop n) (by simp;omega) e he
theorem RO{α:Type}(n:Nat): ∀(k:Nat) (l:List α),l.length=k*n→(chunk n k l).flatten=l
 |0,l,h=>by
  have:l=[]:=List.eq_nil_of_length_eq_zero (by simpa using h)
  simp[chunk,this]
 |k+1,l,h=>by
  rw[Nat.succ_mul]at h;simp only[chunk,List.flatten_cons];rw[RO n k (l.drop n) (by simp;omega),List.take_append_drop]
theorem h6.Di{w:World}{t:TypeId}{n:Nat}{v:Value}{len:Nat}{xs:List Value}(h:w.ownsRow 0 t n v len xs):h6 w t n v len xs:=by
 obtain⟨ar,ag⟩:=h
 refine⟨ar,?_⟩
 rcases ag with⟨aa,ae⟩|⟨g,cap,cur,ax,_,ah,hle,h9,dL,aK⟩
 ·exact .inl ⟨⟨none,aa,fun _ h=>(by cases h)⟩,ae⟩
 ·by_cases hc:cap=0
  ·subst hc
   have:len=0:=by omega
   subst this;exact .inl ⟨⟨_,ax,fun a ba=>(by cases ba;exact(Array.getElem?_eq_some_iff.1 ah).1)⟩,rfl⟩
  ·exact .inr ⟨g,cap,cur,ax,by omega,ah,hle,h9,dL,aK⟩
def wx(P:Program)(G:bd)(o:Oper)(s:aU)(t:TypeId)(n:Nat)(es:List (List bb)):Prop:=
 (∀e∈es,e.length=n)∧∀E a w β ro,df E G s a w β ro→∃v xs w',(execOp a.eval o).run P w= .ok (.value v) w'∧w'.ownsRow 0 t n v es.length xs∧w.grownBy w' none∧(∀b,b9 v=some b→w.heap.size≤b)∧
  ∀j x,es.flatten[j]? =some x→cZ w ro x (xs.getD j undef)
theorem dS.newRow{o:Oper}{t:TypeId}{n:Nat}{es:List (List bb)}(ad:s.base≤s.next)(bk:wx P G o s t n es):
 dS P G o s ({s with heap:=(s.next,.row false t n es)::s.heap,next:=s.next+1}.put o.dst (.aR s.next)):=by
 obtain⟨hn,h⟩:=bk
 intro E a w ⟨β,ro,ag⟩ K Q hK
 obtain⟨v,xs,w',cy,hv,c2,gJ,e1⟩:=h E a w β ro ag
 unfold Oper.wp
 rw[cy]
 have jl:aG s.heap s.next=none:=by
  cases ah:aG s.heap s.next with
  |none=>rfl
  |some p=>have:=ag.trans.new _ _ ah;omega
 have hw: ∀b,b<w.heap.size→w'.heap[b]? =w.heap[b]? :=fun b ad=>c2.block b ad (by simp)
 have cl: ∀b,ro b→w'.heap[b]? =w.heap[b]? :=fun b ad=>hw b (ag.heap.lt b ad)
 have fh:df E G {s with heap:=(s.next,.row false t n es)::s.heap,next:=s.next+1} a w' (gQ β s.next v) ro:=by
  refine ag.new s.next jl ad (Nat.le_refl _) _ v c2.os c2.tape c2.output c2.size hw gJ rfl ?_
  exact .row t n es xs (by rw[dT];exact .Di hv) hn fun j x af=>(e1 j x af).keep cl fun _ h=>h
 refine hK _ _ ⟨_,ro,fh.put o.dst _ _ ?_⟩
 exact .aR _ _ (Nat.lt_succ_self _) fun z bI cT dR _=>(dT _ _ _).symm
theorem zdt{o:Oper}(t:TypeId)(len:Nat)(parts:Array (Nat × Operand))(ao:o.op= .buildSlice t len parts){e n:Nat}(hu:P.underlying t=some (.slice e))(bY:(P.info? e).map (·.size)=some n)
 {zs:List Value}(aS:zeroCells P e=some zs)(sk:zs.all Value.oneCell'=true)(l9:zs.length=n)(hlen:0<len*n∧len*n≤16777216)
 {ps:List (Nat × aF)}(q2:parts.toList.map (fun p=>(p.1,aM G s p.2))=ps)(ec:ps.all (fun p=>(c1 p.2).all (eF s.heap))=true)
 {ds:List aF}(hf:j4 (fun i=>some (i*n,n)) ((List.replicate len (zs.map fun z=>aF.aw (.v z))).flatten) ps=some ds){rs:List bb}(gl:iR ds=some rs):
 wx P G o s e n (chunk n len rs):=by
 have mQ:ds.length=len*n:=by
  have: ∀(ps:List (Nat × aF)) (cs ds:List aF),j4 (fun i=>some (i*n,n)) cs ps=some ds→ds.length=cs.length:=by
   intro ps
   induction ps with
   |nil=>intro cs ds h;simp[j4]at h;rw[h]
   |cons p r a7=>
    intro cs ds h;obtain⟨i,v⟩:=p;simp only[j4]at h
    split at h
    ·rename_i hc
     rw[a7 _ _ h,pQ _ _ _ (by omega)]
    ·cases h
  rw[this ps _ _ hf,j0 (n:=n) (fun e he=>by rw[List.mem_replicate]at he;rw[he.2];simpa using l9)]
  simp
 have RP:rs.length=len*n:=by rw[←mQ,C5 gl];simp
 refine⟨RN n len rs RP,fun E a w β ro ag=>?_⟩
 obtain⟨aa,ae⟩:=KA ag q2 ec
 obtain⟨z,j2,oF,_⟩:=zl aS w
 have e1:(List.replicate len (zs.map fun z=>aF.aw (.v z))).flatten.length=len*n:=by
  rw[j0 (n:=n) (fun e he=>by rw[List.mem_replicate]at he;rw[he.2];simpa using l9)];simp
 have zdu:zs.toArray.size=n:=by simpa using l9
 have q3:0<n:=by
  rcases Nat.eq_zero_or_pos n with h|h
  ·rw[h]at hlen;simp at hlen
  ·exact h
 obtain⟨ys,g1,g2,g3⟩:=Dg (place':=fun i=>some (i*n,n)) (fun _ _ h=>h) ag.heap hf aa ae (xs:=(Array.range (len*n)).map fun x=>zs.toArray[x%zs.toArray.size]!) (by rw[e1];simp) (fun j x af=>by
  have cU:j<len*n:=by rw[←e1];exact(List.getElem?_eq_some_iff.1 af).1
  have hm:j=(j/ n)*n+j%n:=by rw[Nat.mul_comm];exact(Nat.div_add_mod j n).symm
  have nD:j%n<n:=Nat.mod_lt _ q3
  have nE:j/ n<len:=by rw[Nat.div_lt_iff_lt_mul q3];exact cU
  rw[hm,qP (n:=n) (fun e he=>by rw[List.mem_replicate]at he;rw[he.2];simpa using l9) (i:=j/ n) (e:=zs.map fun z=>aF.aw (.v z)) (by simp[nE]) (j%n) nD]at af
  have:=Kz (w:=w) (ro:=ro) (σ:=s.heap) (β:=β) (N:=s.next) sk (j%n) x af
  have aE:(Array.map (fun x=>zs.toArray[x%zs.toArray.size]!) (Array.range (len*n))).getD j undef=zs.toArray.getD (j%n) undef:=by
   have au:j%n<zs.length:=by omega
   simp[cU,l9,List.getElem?_eq_getElem au]
  rw[aE]
  exact this)
 have l5:ys.toList.length=(chunk n len rs).length*n:=by rw[zz];simpa[mQ]using g2
 refine⟨.slice (some ⟨w.heap.size,0,none⟩) len len,ys.toList,w.alloc (.cells ys e),?_,?_,World.grownBy_alloc w _ none,fun b bm=>?_,fun j x af=>?_⟩
 ·have zA:(sizeOf e).run P w= .ok n w:=by
   cases hi:P.info? e with
   |none=>simp[hi]at bY
   |some i=>simp[hi]at bY;simp[sizeOf,typeInfo,hi,bY]
  have cb: ¬len*n>2^24:=by omega
  have jq: ¬len*n=0:=by omega
  simp only[execOp,ao,Sem.run_bind,Instr.buildSlice,run_underlying hu,Result.andThen_ok,zA,if_neg cb,if_neg jq,j2,Sem.run_pure,oF]
  erw [g1]
  simp[newRow]
 ·rw[zz]
  exact World.ownsRow_lit w ys len (Nat.zero_le _) (by simp only[maxLen];have:=Nat.le_mul_of_pos_right len q3;omega) (by simpa[mQ]using g2)
 ·simp only[b9]at bm
  split at bm
  ·cases bm
  ·simp at bm;omega
 ·rw[RO n len rs RP]at af
  have au:=g3 j (.aw x) (by rw[C5 gl];simp[af])
  cases au with
  |aw _ _ au=>
   have:ys.toList.getD j undef=ys.getD j undef:=by simp[List.getD,Array.getD_eq_getD_getElem?]
   rw[this];exact au
end
end Go.aO
