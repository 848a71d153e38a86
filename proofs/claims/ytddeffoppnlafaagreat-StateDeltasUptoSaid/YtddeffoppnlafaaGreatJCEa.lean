/- Conditions: none. -/
import Derived.Test.YtddeffoppnlafaaGreatJTDm1
open Nat renaming le_refl->zZv,le_trans->zZx,lt_of_lt_of_le->zZw
namespace Go.aH
open Go
theorem bN.Tx{w w':World}{ro ro':Nat->Prop}{σ cZ:bK}{β cS:Nat->Value}{N oq:Nat}{x:aC}{c:Value}(h:bN w ro σ β N x c)
 (hw: ∀b,ro b->w'.heap[b]? =w.heap[b]?)(cA: ∀b,ro b->ro' b)(m5:N<=oq)
 (ot: ∀id,id<N->∀t cs,aF cZ id=some (.box t cs)->cS id=β id/\∃t cs,aF σ id=some (.box t cs))
 (ea: ∀id,id<N->∀z t n es,aF cZ id=some (.row z t n es)->cS id=β id/\∃z t es,aF σ id=some (.row z t n es))
 (o5: ∀id,id<N->∀bU,aF cZ id=some (.bW bU)->cS id=β id/\∃bU,aF σ id=some (.bW bU)):bN w' ro' cZ cS oq x c:=by
 induction h with
 |ad x c hx=>exact .ad x c (hx.keep hw cA)|agg cs c ao _ bb=>exact .agg cs c ao bb|tuple cs c ao _ bb=>exact .tuple cs c ao bb|ptr id off c au ar=>
  refine .ptr id off c (by omega) λt cs ai=>?_
  obtain⟨af,br,cs',ee⟩:=ot id au t cs ai;obtain⟨b,aa,ae⟩:=ar br cs' ee;exact⟨b,af.trans aa,ae⟩
 |eb id off c au ar=>
  refine .eb id off c (by omega) λt cs ai=>?_
  obtain⟨af,br,cs',ee⟩:=ot id au t cs ai;obtain⟨b,aa,ae⟩:=ar br cs' ee;exact⟨b,af.trans aa,ae⟩
 |du id i off c au ar=>
  refine .du id i off c (by omega) λz t n es ai=>?_
  obtain⟨af,h5,br,e2,ee⟩:=ea id au z t n es ai;obtain⟨b,l,h6,aa,ae⟩:=ar h5 br n e2 ee;exact⟨b,l,h6,af.trans aa,ae⟩
 |aq id c au ar=>
  refine .aq id c (by omega) λz t n es ai=>?_
  obtain⟨af,h5,br,e2,ee⟩:=ea id au z t n es ai;rw[af];exact ar h5 br n e2 ee
 |fn f p q c d aa ae _ _ h7 h8=>exact .fn f p q c d aa ae h7 h8|ref id c au ar=>
  refine .ref id c (by omega) λbU ai=>?_
  obtain⟨af,lv,ee⟩:=o5 id au bU ai;rw[af];exact ar lv ee
 |top c=>exact .top c
theorem LX: ∀{σ:bK} {id:Nat} {o:ey},aF σ id=some o->(id,o)∈σ
 |(k,x)::r,id,o,h=>by
  simp only[aF]at h
  split at h
  ·rename_i an
   cases h;subst an;exact .head _
  ·exact .tail _ (LX h)
def G0:ey->ey->Bool
 | .box _ _,.box _ _=>true| .row _ _ n _,.row _ _ m _=>Nat.beq n m| .bW _,.bW _=>true|_,_=>false
def wx(σ:bK)(n:Nat):bK->Bool
 |[]=>true
 |(k,o)::r=>(Nat.ble n k||match aF σ k with
  |some ct=>G0 ct o
  |none=>false)&&wx σ n r
theorem LY{σ:bK}{n:Nat}: ∀{cu:bK},wx σ n cu=true->∀{id:Nat} {o:ey},(id,o)∈cu->id<n->∃ct,aF σ id=some ct/\G0 ct o=true
 |(k,x)::r,h,id,o,hm,au=>by
  simp only[wx,Bool.and_eq_true,Bool.or_eq_true]at h
  rcases List.mem_cons.1 hm with q|q
  ·cases q
   rcases h.1 with aa|aa
   ·have:=Nat.le_of_ble_eq_true aa
    omega
   ·split at aa
    ·exact⟨_,by assumption,aa⟩
    ·cases aa
  ·exact LY h.2 q au
def m6(P:Program)(G:aV)(f:FuncId)(args:List aC)(σ:bK)(n:Nat)(r:aC)(cZ:bK)(b0:Nat):Prop:=
 ∀w β ro (dY:Array Value),dY.size=args.length->(∀i x,args[i]? =some x->bN w ro σ β n x (dY.getD i undef))->hA w ro σ β n->qI w ro G->(∀id o,aF σ id=some o->id<n)->
  Calls P f dY w λe w'=>∃v cS ro',e= .returned v/\bN w' ro' cZ cS b0 r v/\hA w' ro' cZ cS b0/\Trans ⟨w,ro,σ,β,n,[]⟩ w' ro' cZ cS b0
theorem Trans.trans{E:Entry}{w w':World}{ro ro':Nat->Prop}{σ cZ:bK}{β cS:Nat->Value}{n b0:Nat}{d:List Deferred}(t:Trans E w ro σ β n)(u:Trans ⟨w,ro,σ,β,n,d⟩ w' ro' cZ cS b0):Trans E w' ro' cZ cS b0:=by
 have own: ∀b,b<E.w.heap.size->Own σ β b->Own E.σ E.β b:=λb af av=>by
  rcases t.gG b av with h|h
  ·exact h
  ·omega
 have ao:=t.size;refine⟨u.os.trans t.os,u.tape.trans t.tape,u.output.trans t.output,zZx t.size u.size,λb af hI=>?_,λb af=>?_,λb af=>u.hp b (t.hp b af),λb af=>?_,λid bq o ai=>?_,u.new,zZx t.le u.le⟩
 ·exact(u.frame b (zZw af t.size) λav=>hI (own b af av)).trans (t.frame b af hI)
 ·rcases u.h9 b af with h|h|h
  ·exact t.h9 b h
  ·rcases t.gG b h with h|h
   ·exact .inr (.inl h)
   ·exact .inr (.inr h)
  ·exact .inr (.inr (zZx t.size h))
 ·rcases u.gG b af with h|h
  ·exact t.gG b h
  ·exact .inr (zZx t.size h)
 ·obtain⟨aa,ae⟩:=u.er id (zZw bq t.le) o ai
  cases aB:aF σ id with
  |none=>exact absurd aB aa|some q=>
   obtain⟨g1,g2⟩:=t.er id bq q aB;exact⟨g1,ae.trans g2⟩
section
variable {P:Program} {G:aV} {s:aS} {o:Oper}
theorem eL.zdb{f:FuncId}{p q:List aC}{xs:Array Operand}(pT:rO P G o s f p q xs)(iw:o6 P f=true){r:aC}{cZ:bK}{b0:Nat}
 (hc:m6 P G f (p++xs.toList.map (aR G s)++q) s.heap s.next r cZ b0)(an:wx s.heap s.next cZ=true):eL P G o s (aS.put ⟨s.dn,cZ,b0,s.base⟩ o.dst r):=by
 intro E a w ⟨β,ro,h⟩ K Q hK;obtain⟨c,d,aa,ae,lx,uL,cE⟩:=pT E a w β ro h;unfold Oper.wp;rw[cE w,Dg iw];have hP:=hc w β ro (c++xs.map a.eval++d) (by simp[aa,ae,Nat.add_assoc]) (λi y aA=>LZ (x:=.const undef) (f:=.func f) h aa ae lx uL i y aA) h.heap h.ix h.trans.new
 refine Calls.mono hP λe w' aB=>?_;obtain⟨v,cS,ro',rfl,dO,gk,cP⟩:=aB;have cA: ∀b,ro b->w'.heap[b]? =w.heap[b]? :=λb af=>cP.frame b (h.heap.lt b af) (h.heap.fy b af)
 have kind: ∀id ct,id<s.next->aF cZ id=some ct->cS id=β id/\∃o,aF s.heap id=some o/\G0 o ct=true:=λid ct au ai=>by
  obtain⟨o,g1,g2⟩:=LY an (LX ai) au;exact⟨(cP.er id au ct ai).2,o,g1,g2⟩
 refine hK _ _ ⟨cS,ro',dy.put (s:=⟨s.dn,cZ,b0,s.base⟩) ⟨h.defers,h.size,λi x hx=>(h.slot i x hx).Tx cA cP.hp cP.le (λid au t cs ai=>?_) (λid au z t n es ai=>?_) (λid au bU ai=>?_),gk,h.ix.keep cA cP.hp,h.trans.trans cP,h.base⟩ o.dst _ _ dO⟩
 ·obtain⟨aa,o,ae,aw⟩:=kind id _ au ai
  cases o with
  |box br cs'=>exact⟨aa,_,_,ae⟩|_=>cases aw
 ·obtain⟨aa,o,ae,aw⟩:=kind id _ au ai
  cases o with
  |row h5 br b0 e2=>
   have:=Nat.eq_of_beq_eq_true aw;subst this;exact⟨aa,_,_,_,ae⟩
  |_=>cases aw
 ·obtain⟨aa,o,ae,aw⟩:=kind id _ au ai
  cases o with
  |bW lv=>exact⟨aa,_,ae⟩|_=>cases aw
theorem m6.body{f:FuncId}{fn:Func}{c:Code}{args:List aC}{σ:bK}{n:Nat}{r:aC}{cZ:bK}{b0:Nat}(hf:P.funcs[f]? =some fn)(af:fn.body=some c)
 (h:cb P G c (λe s=>(e= .normal\/e= .ret)/\tk P fn s=some r/\(∀id o,aF cZ id=some o->aF s.heap id=some o)/\s.next=b0) ⟨args++List.replicate (fn.ntmps-args.length) .top,σ,n,n⟩):m6 P G f args σ n r cZ b0:=by
 intro w β ro dY b4 jV a8 ai bR;refine calls_of_wp hf af (wp_mono (h ⟨w,ro,σ,β,n,[]⟩ _ w ⟨β,ro,rfl,?_,?_,a8,ai,?_,zZv _⟩) ?_)
 ·simp[b4]
 ·intro i x hi
  simp only at hi
  by_cases yb:i<args.length
  ·rw[List.getElem?_append_left yb]at hi
   have:=jV i x hi;have aa:i<dY.size:=by omega
   simpa[Array.getElem?_append_left aa,aa,Array.getElem_append_left aa]using this
  ·rw[List.getElem?_append_right (by omega)]at hi
   rw[List.getElem?_replicate]at hi
   split at hi
   ·simp only[Option.some.injEq]at hi;subst hi;exact .top _
   ·cases hi
 ·exact⟨rfl,rfl,rfl,zZv _,λ_ _ _=>rfl,λ_ h=>.inl h,λ_ h=>h,λ_ h=>.inl h,λid _ o av=>⟨by rw[av];simp,rfl⟩,bR,zZv _⟩
 ·intro e bo w' ⟨s',aB,cS,ro',ah⟩
  obtain⟨he,ly,gb,zdc⟩:=aB;subst zdc;obtain⟨v,az,dO⟩:=G1 ah ly
  rcases he with rfl|rfl
  ·exact⟨ah.defers,v,az,v,cS,ro',rfl,dO.sub gb,ah.heap.sub gb,ah.trans.sub gb⟩
  ·exact⟨ah.defers,v,az,v,cS,ro',rfl,dO.sub gb,ah.heap.sub gb,ah.trans.sub gb⟩
end
end Go.aH
