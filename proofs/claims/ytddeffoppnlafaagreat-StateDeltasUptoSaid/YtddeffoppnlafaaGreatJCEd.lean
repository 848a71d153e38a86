/- Conditions: none. -/
import Derived.Test.YtddeffoppnlafaaGreatJCEc
import Derived.Test.YtddeffoppnlafaaGreatJTDm1
open Array renaming toList_inj->zZp
open Bool renaming and_eq_true->zZr
open Nat renaming beq->zZu,ble->zZt,blt->zZs,le_of_ble_eq_true->zZq
namespace Go.aH
open Go
theorem b5.uM{s:aS}{id:Nat}{t:TypeId}{n:Nat}{es:List (List a7)}(bq:aF s.heap id=some (.row false t n es)):b5 s ⟨s.dn,eX s.heap id (.row true t n es),s.next,s.base⟩:=by
 intro E G a w ⟨β,ro,h⟩;have eg:=h.heap.dB id _ bq
 cases eg with
 |row _ _ _ xs ea hn hc=>
  have AD:dq w (λb=>ro b\/cF (β id)=some b) (.aq n es) (β id):=ea.He hn (λj x aj=>(hc j x aj).keep (λ_ _=>rfl) λ_ h=>.inl h) λb af=>.inr af;have look: ∀k,aF (eX s.heap id (.row true t n es)) k=if id=k then some (.row true t n es)else aF s.heap k:=wG _ _ _
  have up: ∀x c,bN w ro s.heap β s.next x c->bN w (λb=>ro b\/cF (β id)=some b) (eX s.heap id (.row true t n es)) β s.next x c:=λx c hx=>
   hx.keep (λ_ _=>rfl) (λ_ h=>.inl h) (Nat.le_refl _) (λk br cs ai=>by
    rw[look]at ai
    split at ai
    ·cases ai
    ·exact⟨rfl,_,_,ai⟩) (λk z br b0 e2 ai=>by
    rw[look]at ai
    split at ai
    ·rename_i an
     subst an;cases ai;exact⟨rfl,_,_,_,bq⟩
    ·exact⟨rfl,_,_,_,ai⟩) (λk bU ai=>by
    rw[look]at ai
    split at ai
    ·cases ai
    ·exact⟨rfl,_,ai⟩)
  have live: ∀{k:Nat} {o:ey},aF (eX s.heap id (.row true t n es)) k=some o->o.live=true->aF s.heap k=some o/\k≠id:=λ{k o} ai au=>by
   rw[look]at ai
   split at ai
   ·cases ai;cases au
   ·rename_i b6;exact⟨ai,λe=>b6 e.symm⟩
  have back: ∀{k:Nat} {o:ey},aF (eX s.heap id (.row true t n es)) k=some o->∃p,aF s.heap k=some p:=λ{k o} ai=>by
   rw[look]at ai
   split at ai
   ·rename_i an;subst an;exact⟨_,bq⟩
   ·exact⟨_,ai⟩
  refine⟨β,λb=>ro b\/cF (β id)=some b,h.defers,h.size,λi x hx=>up _ _ (h.slot i x hx),⟨λk o ai=>?_,λk bl o ct b ai ee au kW af hB=>?_,λb af=>?_,λb af=>?_⟩,
   h.ix.keep (λ_ _=>rfl) λ_ h=>.inl h,?_,h.base⟩
  ·rw[look]at ai
   split at ai
   ·rename_i an
    subst an;cases ai;exact .gH t n es AD
   ·cases h.heap.dB k o ai with
    |box br cs' b arr aE bc cJ ek=>exact .box br cs' b arr aE bc cJ λj x aj=>up _ _ (ek j x aj)
    |row br b0 e2 Dt aE bc cJ=>exact .row br b0 e2 Dt aE bc λj x aj=>(cJ j x aj).keep (λ_ _=>rfl) λ_ h=>.inl h
    |gH br b0 e2 aE=>exact .gH br b0 e2 (aE.keep (λ_ _=>rfl) λ_ h=>.inl h)
    |bW bU b o aE bc cJ=>exact .bW bU b o aE bc (bU.mono _ _ _ _ (λx c h=>h.keep (λ_ _=>rfl) λ_ h=>.inl h) cJ)
  ·exact h.heap.inj k bl o ct b (live ai au).1 (live ee kW).1 au kW af hB
  ·rintro⟨k,o,ai,au,bp⟩
   obtain⟨aa,ae⟩:=live ai au
   rcases af with af|af
   ·exact h.heap.fy b af ⟨k,o,aa,au,bp⟩
   ·exact ae (h.heap.inj k id o _ b aa bq au rfl bp af)
  ·rcases af with af|af
   ·exact h.heap.lt b af
   ·exact(ea.jB af).1
  ·have br:=h.trans
   refine⟨br.os,br.tape,br.output,br.size,br.frame,λb af=>?_,λb af=>.inl (br.hp b af),?_,λk an o ai=>?_,λk o ai=>?_,br.le⟩
   ·rcases af with af|af
    ·exact br.h9 b af
    ·rcases br.gG b ⟨id,_,bq,rfl,af⟩with hc|hc
     ·exact .inr (.inl hc)
     ·exact .inr (.inr hc)
   ·rintro b ⟨k,o,ai,au,bp⟩
    exact br.gG b ⟨k,o,(live ai au).1,au,bp⟩
   ·obtain⟨p,ar⟩:=back ai
    exact br.er k an p ar
   ·obtain⟨p,ar⟩:=back ai
    exact br.new k p ar
def Hf(h:eM)(id:Nat):eM:=
 match o7 h id with
 |some (.row false t n es)=>tm h id (.row true t n es)|_=>h
theorem zdo{l:bn aC}{N:Nat}{h:eM}{n b:Nat}(id:Nat):b5 (bS.den ⟨l,N,h,n,b⟩) (bS.den ⟨l,N,Hf h id,n,b⟩):=by
 unfold Hf
 split
 ·rename_i t m es ai
  have:=b5.uM (s:=bS.den ⟨l,N,h,n,b⟩) (id:=id) (t:=t) (n:=m) (es:=es) (by show aF (c7 h) id=_;rw[uN,ai];rfl)
  simp only[bS.den,wz];exact this
 ·exact b5.refl _
def Hg:List Nat->eM->eM
 |[],h=>h|id::r,h=>Hg r (Hf h id)
theorem TG{l:bn aC}{N n b:Nat}: ∀(ids:List Nat) (h:eM),b5 (bS.den ⟨l,N,h,n,b⟩) (bS.den ⟨l,N,Hg ids h,n,b⟩)
 |[],_=>b5.refl _|id::r,h=>(zdo id).trans (TG r (Hf h id))
mutual
def Hh:aC->List Nat
 | .aq id=>[id]| .agg cs=>Mj cs| .tuple cs=>Mj cs|_=>[]
def Mj:List aC->List Nat
 |[]=>[]|x::r=>Hh x++Mj r
end
theorem b5.zdp{s:aS}{i:Nat}{v:aC}(h:s.dn[i]? =some v):b5 s ⟨s.dn.set i (jg s.heap v),s.heap,s.next,s.base⟩:=by
 intro E G a w ⟨β,ro,ah⟩;refine⟨β,ro,ah.defers,by simpa using ah.size,λj x hx=>?_,ah.heap,ah.ix,ah.trans,ah.base⟩
 rw[List.getElem?_set]at hx
 split at hx
 ·rename_i o9
  subst o9
  split at hx
  ·cases hx
   exact TH ah.heap (ah.slot _ _ h)
  ·cases hx
 ·exact ah.slot j x hx
def Mk(S:bS):Operand->bS
 | .tmp t=>match zZs t S.N with
  |true=>match Hh (S.at t)with
   |[]=>S|ids=>match Hg ids S.h with
    |h=>S.up (S.l.put t (jg (c7 h) (S.at t))) h S.n
  |false=>S
 |_=>S
theorem zdq(S:bS)(x:Operand):b5 S.den (Mk S x).den:=by
 unfold Mk
 split
 ·rename_i t
  split
  ·rename_i az
   split
   ·exact b5.refl _
   ·rename_i ids
    refine(TG (Hh (S.at t)) S.h).trans ?_
    have:=b5.zdp (s:=bS.den ⟨S.l,S.N,Hg (Hh (S.at t)) S.h,S.n,S.b⟩) (i:=t) (v:=S.at t) (by
     rw[L5];simp only[az]
     rfl)
    rw[lA,Tu];exact this
  ·exact b5.refl _
 ·exact b5.refl _
def Hi:List Operand->bS->bS
 |[],S=>S|x::r,S=>Hi r (Mk S x)
theorem Hj: ∀(l:List Operand) (S:bS),b5 S.den (Hi l S).den
 |[],_=>b5.refl _|x::r,S=>(zdq S x).trans (Hj r _)
def zdr(G:aV)(S:bS):Op->List Operand
 | .buildSlice _ _ ps=>ps.toList.map (·.2)| .makeInterface _ x=>[x]| .mapUpdate _ _ _ v=>[v]| .slice _ x _ _ _=>[x]| .store _ p x=>match fA G S p with
  | .du _ _ _=>[x]|_=>[]
 |_=>[]
def Hk(G:aV)(o:Oper)(S:bS):bS:=Hi (zdr G S o.op) S
def Hl(P:Program)(G:aV)(S:bS)(o:Oper):Option (Nat × List aC):=
 match o.op with
 | .call c=>match c.callee with
  | .value x=>match fA G S x with
   | .fn (.func f) p q=>some (f,p++c.args.toList.map (fA G S)++q)|_=>none
  | .invoke x name=>match fA G S x with
   | .ad (.eE t a l)=>match methodOf P t name,G4 a l with
    |some f,some v=>some (f,[v]++c.args.toList.map (fA G S)++[])|_,_=>none
   |_=>none
  |_=>none
 |_=>none
abbrev fB:=FuncId->List aC->eM->Nat->Option (aC × eM × Nat)
def ia(P:Program)(G:aV)(bX:fB):Prop:=∀f args h n r h' b0,bX f args h n=some (r,h',b0)->m6 P G f args (c7 h) n r (c7 h') b0
def newRow(S:bS)(dst:Option Nat)(e n:Nat)(es:List (List a7)):bS:=bS.put (S.up S.l ((S.n,.row false e n es)::S.h) (S.n+1)) dst (.aq S.n)
def AE(S:bS)(id:Nat):Option (TypeId × Nat × List (List a7)):=
 match o7 S.h id with
 |some (.row false t n es)=>some (t,n,es)|_=>none
def Ml(P:Program)(S:bS)(dst:Option Nat)(t br:TypeId)(x y:aC):Option bS:=
 match y with
 | .ad (.v (.string b))=>match yi P t br with
  |some e=>match x with
   | .aq id=>match AE S id with
    |some (bc,hq,es)=>match(zZu bc e&&zZu hq 1)&&(zZt S.b S.n&&zZt (es.length+b.size) 16777216)with
     |true=>some (bS.put (S.up (S.l.map (eV id)) ((S.n,.row false e 1 (es++(fC b).map λz=>[a7.v (.int .u8 z)]))::Ax id S.h) (S.n+1)) dst (.aq S.n))
     |false=>none
    |none=>none
   | .ad (.v (.slice none 0 0))=>match zZt S.b S.n&&zZt b.size 16777216 with
    |true=>some (newRow S dst e 1 ((fC b).map λz=>[a7.v (.int .u8 z)]))
    |false=>none
   |_=>none
  |none=>none
 |y=>match zZu t br,rW P t with
  |true,some (e,n,Mm)=>match iQ (c7 S.h) n y with
   |some fs=>match x with
    | .aq id=>match AE S id with
     |some (bc,hq,es)=>match(zZu bc e&&zZu hq n)&&(zZt S.b S.n&&(zZt (es.length+fs.length) 16777216&&zZt ((es.length+fs.length)*Mm) 16777216))with
      |true=>some (bS.put (S.up (S.l.map (eV id)) ((S.n,.row false e n (es++fs))::Ax id S.h) (S.n+1)) dst (.aq S.n))|false=>none
     |none=>none
    | .ad (.v (.slice none 0 0))=>match zZt S.b S.n&&(zZt fs.length 16777216&&zZt (fs.length*Mm) 16777216)with
     |true=>some (newRow S dst e n fs)|false=>none
    |_=>none
   |none=>none
  |_,_=>none
def Mn(P:Program)(S:bS)(dst:Option Nat)(t:TypeId)(p x:aC):Option bS:=
 match p with
 | .ptr id off=>match o7 S.h id with
  |some (.box bt cs)=>match(dc x).all (fp (c7 S.h))&&(decide ((P.info? t).map (·.size)=some (dc x).length)&&zZt (off+(dc x).length) cs.length)with
   |true=>some (bS.put (S.up S.l (tm S.h id (.box bt (eJ cs off (dc x)))) (S.n)) dst .top)|false=>none
  |_=>none
 | .du id i off=>match AE S id with
  |some (bt,n,es)=>match es[i]?,jU (dc x)with
   |some e,some vs=>match decide ((P.info? t).map (·.size)=some vs.length)&&zZt (off+vs.length) n with
    |true=>some (bS.put (S.up S.l (tm S.h id (.row false bt n (es.set i (eJ e off vs)))) (S.n)) dst .top)|false=>none
   |_,_=>none
  |none=>none
 |_=>none
def Mo:Bool->aC->Option (List a7)
 |true,.agg cs=>jU cs|false,.ad y=>some [y]|_,_=>none
def Mp(P:Program)(S:bS)(dst:Option Nat)(t:TypeId)(m x v:aC):Option bS:=
 match m with
 | .ref id=>match o7 S.h id,x,P.underlying t with
  |some (.mp a l),.ad (.v k),some (.map fK _)=>match P.underlying fK,Mo a v with
   |some d,some cs=>match Dj d k&&Dk d l with
    |true=>match ye k l 0 with
     |some i=>some (bS.put (S.up S.l (tm S.h id (.mp a (l.set i (k,cs)))) (S.n)) dst .top)|none=>some (bS.put (S.up S.l (tm S.h id (.mp a (l++[(k,cs)]))) (S.n)) dst .top)
    |false=>none
   |_,_=>none
  |_,_,_=>none
 |_=>none
def Mq(P:Program)(S:bS)(dst:Option Nat)(x:aC):Option bS:=
 match x with
 | .ref id=>match o7 S.h id with
  |some (.it b pos)=>match zZs pos b.size with
   |true=>match Utf8.decode b pos with
    |(c,k)=>some (bS.put (S.up S.l (tm S.h id (.it b (pos+k))) (S.n)) dst (.tuple [.ad (.v (.bool true)),.ad (.v (.int .i64 (pos:Int))),.ad (.v (.int .i32 (c:Int)))]))
   |false=>some (S.put dst (.tuple [.ad (.v (.bool false))]))
  |_=>none
 |_=>none
def Du(o:Oper):Bool:=
 match o.op with
 | .store _ _ _=>true| .alloc _=>true| .box _ _=>true| .buildSlice _ _ _=>true| .makeSlice _ _ _=>true| .makeMap _ _=>true| .mapUpdate _ _ _ _=>true| .range _ _=>true| .next _ _=>true| .call c=>match c.callee with
  | .builtin .append=>true| .builtin .copy=>true| .value _=>true| .invoke _ _=>true|_=>false
 |_=>false
def Mr(P:Program)(G:aV)(bX:fB)(o:Oper)(S:bS):Option bS:=
 match o.op with
 | .store t p x=>Mn P S o.dst t (fA G S p) (fA G S x)| .alloc t=>match zeroCells P t with
  |some zs=>match zs.all Value.oneCell'&&zZt S.b S.n with
   |true=>some (bS.put (S.up S.l ((S.n,.box t (zs.map λz=>.ad (.v z)))::S.h) (S.n+1)) o.dst (.ptr S.n 0))
   |false=>none
  |none=>none
 | .box t x=>match(dc (fA G S x)).all (fp (c7 S.h))&&zZt S.b S.n with
  |true=>some (bS.put (S.up S.l ((S.n,.box t (dc (fA G S x)))::S.h) (S.n+1)) o.dst (.ptr S.n 0))|false=>none
 | .buildSlice t len ps=>match zda P (fA G S) (c7 S.h) t len ps.toList,zZt S.b S.n with
  |some (e,n,es),true=>some (newRow S o.dst e n es)|_,_=>none
 | .makeSlice t x y=>match rW P t,Aw (fA G S x),Aw (fA G S y)with
  |some (e,n,bytes),some m,some qK=>match zeroCells P e with
   |some zs=>match(zs.all Value.oneCell'&&zZu m qK)&&(zZt S.b S.n&&(zZt m 16777216&&zZt (bytes*m) 16777216))with
    |true=>some (newRow S o.dst e n (List.replicate m (zs.map a7.v)))|false=>none
   |none=>none
  |_,_,_=>none
 | .makeMap t none=>match P.underlying t,zZt S.b S.n with
  |some (.map _ fr),true=>some (bS.put (S.up S.l ((S.n,.mp (nF P fr).isSome [])::S.h) (S.n+1)) o.dst (.ref S.n))|_,_=>none
 | .mapUpdate t m x v=>Mp P S o.dst t (fA G S m) (fA G S x) (fA G S v)| .range t x=>match isStr P t&&zZt S.b S.n,fA G S x with
  |true,.ad (.v (.string b))=>some (bS.put (S.up S.l ((S.n,.it b 0)::S.h) (S.n+1)) o.dst (.ref S.n))|_,_=>none
 | .next x true=>Mq P S o.dst (fA G S x)| .call c=>match c.callee,c.args.toList,c.argTypes.toList with
  | .builtin .append,[x,y],[t,br]=>Ml P S o.dst t br (fA G S x) (fA G S y)| .builtin .copy,[x,y],[t,_]=>match fA G S x with
   | .aq id=>match AE S id,lY P t with
    |some (bt,n,es),some b0=>match iQ (c7 S.h) n (fA G S y),zZu n b0 with
     |some fs,true=>some (bS.put (S.up S.l (tm S.h id (.row false bt n (fs.take es.length++es.drop fs.length))) (S.n)) o.dst (AF ((Nat.min fs.length es.length:Nat):Int)))|_,_=>none
    |_,_=>none
   |_=>none
  |_,_,_=>match Hl P G S o with
   |some (f,aI)=>match o6 P f,bX f aI S.h S.n with
    |true,some (r,h',b0)=>match wx (c7 S.h) S.n (c7 h')with
     |true=>some (bS.put (S.up S.l (h') (b0)) o.dst r)|false=>none
    |_,_=>none
   |none=>none
 |_=>none
def Hm(P:Program):Nat->TypeId->Bool
 |0,_=>false|n+1,t=>match P.underlying t with
  |some .bool=>true|some (.int _)=>true|some .string=>true|some (.func _ _ _)=>true|some (.slice e)=>Hm P n e|some (.array _ e)=>Hm P n e|some (.struct fs)=>fs.toList.all λf=>Hm P n f.type
  |_=>false
def Dv(P:Program)(o:Oper):Bool:=Du o&&match o.op with
 | .call c=>match c.callee with
  | .value _=>!(c.argTypes.toList.all (Hm P 8))|_=>true
 |_=>true
def Hn(P:Program)(G:aV)(S:bS)(o:Oper):Option (FuncId × List aC):=
 match o.op with
 | .call c=>match c.callee with
  | .value x=>match fA G S x with
   | .fn (.func f) [] []=>match c.args.toList.map (λy=>jg (c7 S.h) (fA G S y))with
    |aI=>match gI aI with
     |true=>some (f,aI)|false=>none
   |_=>none
  |_=>none
 |_=>none
def jf.shift(d:Nat):jf->jf
 | .box t cs=>.box t (pa d cs)|o=>o
def Ho(d:Nat):eM->eM
 |[]=>[]|(k,o)::r=>(d+k,o.shift d)::Ho d r
theorem TI(d:Nat): ∀h:eM,c7 (Ho d h)=nI d (c7 h)
 |[]=>rfl|(k,o)::r=>by
  cases o<;>simp only[Ho,c7,jf.shift,jf.den,nI,TI d r]
theorem TJ: ∀h k:eM,c7 (h++k)=c7 h++c7 k
 |[],_=>rfl|(i,o)::r,k=>by
  show(i,o.den)::c7 (r++k)=_;rw[TJ r k];rfl
def Ms(P:Program)(bX:fB)(o:Oper)(f:FuncId)(aI:List aC)(S:bS):Option bS:=
 match o6 P f&&zZt S.b S.n,bX f aI [] 0 with
 |true,some (r,h',b0)=>match jh b0 r&&l1 b0 (c7 h')with
  |true=>some (bS.put (S.up S.l (Ho S.n h'++S.h) (S.n+b0)) o.dst (Dw S.n r))|false=>none
 |_,_=>none
def Mt(P:Program)(G:aV)(bX:fB)(o:Oper)(S:bS):Option bS:=
 match G8 P G o S with
 |some v=>some (S.put o.dst v)|none=>match Du o with
  |true=>match Hn P G S o with
   |some (f,aI)=>Ms P bX o f aI S|none=>Mr P G bX o S
  |false=>none
def Mu(P:Program)(G:aV)(S:bS)(o:Oper):Bool:=Du o&&(Hn P G S o).isNone
section
variable {P:Program} {G:aV} {o:Oper} {S bV:bS} {bX:fB}
theorem Hp{id:Nat}{t n:Nat}{es:List (List a7)}(h:AE S id=some (t,n,es)):aF S.den.heap id=some (.row false t n es):=by
 unfold AE at h
 split at h
 ·rename_i ai
  cases h;show aF (c7 S.h) id=_;rw[uN,ai];rfl
 ·cases h
theorem Dx{id:Nat}{o:jf}(h:o7 S.h id=some o):aF S.den.heap id=some o.den:=by
 show aF (c7 S.h) id=_;rw[uN,h];rfl
theorem TK{e n:Nat}{es:List (List a7)}(af:zZt S.b S.n=true)(h:wH P G o S.den e n es):eL P G o S.den (newRow S o.dst e n es).den:=by
 have:=eL.newRow (zZq af) h;unfold newRow;rw[iR,lA];exact this
theorem zds{x y:Operand}{t br:TypeId}(av:o.op= .call {callee:=.builtin .append,args:=#[x,y],argTypes:=#[t,br]})(h:Ml P S o.dst t br (aR G S.den x) (aR G S.den y)=some bV):eL P G o S.den bV.den:=by
 unfold Ml at h
 split at h
 ·rename_i b aA
  split at h
  ·rename_i e aJ
   split at h
   ·rename_i id hx
    split at h
    ·rename_i bc hq es ah
     split at h
     ·rename_i hc
      simp only[zZr]at hc;cases h;obtain⟨⟨aO,bz⟩,bd,dV⟩:=hc;have aO:=e9 aO;have bz:=e9 bz;subst aO bz;have dV:=zZq dV;have:=TL x y t br av aJ hx (Hp ah) (zZq bd) aA ⟨by simp only[maxLen];omega,by omega⟩
      rw[iR];simp only[lA,c7,G5,LW (eV id) rfl,<-LV];exact this
     ·cases h
    ·cases h
   ·rename_i hx
    split at h
    ·rename_i hc
     simp only[zZr]at hc;cases h;have dV:=zZq hc.2;have:=TM x y t br av aJ hx (zZq hc.1) aA ⟨by simp only[maxLen];omega,by omega⟩
     unfold newRow;rw[iR,lA];exact this
    ·cases h
   ·cases h
  ·cases h
 ·rename_i tq _
  split at h
  ·rename_i e n Mm Dy aJ
   have Dy:=e9 Dy;subst Dy
   split at h
   ·rename_i fs aA
    split at h
    ·rename_i id hx
     split at h
     ·rename_i bc hq es ah
      split at h
      ·rename_i hc
       simp only[zZr]at hc;cases h;obtain⟨⟨aO,bz⟩,bd,dV,eK⟩:=hc;have aO:=e9 aO;have bz:=e9 bz;subst aO bz;have dV:=zZq dV;have eK:=zZq eK;have:=TN x y t av aJ hx (Hp ah) (zZq bd) aA ⟨by simp only[maxLen];omega,by omega⟩
       rw[iR];simp only[lA,c7,G5,LW (eV id) rfl,<-LV];exact this
      ·cases h
     ·cases h
    ·rename_i hx
     split at h
     ·rename_i hc
      simp only[zZr]at hc;cases h;have dV:=zZq hc.2.1;have eK:=zZq hc.2.2;have:=TO x y t av aJ hx (zZq hc.1) aA ⟨by simp only[maxLen];omega,by omega⟩
      unfold newRow;rw[iR,lA];exact this
     ·cases h
    ·cases h
   ·cases h
  ·cases h
theorem zdt{t:TypeId}{p x:Operand}(av:o.op= .store t p x)(h:Mn P S o.dst t (aR G S.den p) (aR G S.den x)=some bV):eL P G o S.den bV.den:=by
 unfold Mn at h
 split at h
 ·rename_i id off ar
  split at h
  ·rename_i bt cs ai
   split at h
   ·rename_i hc
    simp only[zZr,decide_eq_true_eq]at hc;cases h;have:=Mv (s:=S.den) t p x av ar (Dx ai) rfl hc.1 hc.2.1 (zZq hc.2.2);rw[iR];simp only[lA,wz];exact this
   ·cases h
  ·cases h
 ·rename_i id i off ar
  split at h
  ·rename_i bt n es ah
   split at h
   ·rename_i e vs he az
    split at h
    ·rename_i hc
     simp only[zZr,decide_eq_true_eq]at hc;cases h;have:=Mw (s:=S.den) t p x av ar (Hp ah) he az hc.1 (zZq hc.2);rw[iR];simp only[lA,wz];exact this
    ·cases h
   ·cases h
  ·cases h
 ·cases h
theorem TP{a:Bool}{v:aC}{cs:List a7}(h:Mo a v=some cs):tr a cs v:=by
 unfold Mo at h
 split at h
 ·rw[AA h]
  simp[tr]
 ·cases h
  simp[tr]
 ·cases h
theorem zdu{t:TypeId}{m x v:Operand}(av:o.op= .mapUpdate t m x v)(h:Mp P S o.dst t (aR G S.den m) (aR G S.den x) (aR G S.den v)=some bV):eL P G o S.den bV.den:=by
 unfold Mp at h
 split at h
 ·rename_i id hm
  split at h
  ·rename_i a l k fK fr ai hx aJ
   split at h
   ·rename_i d cs hd az
    split at h
    ·rename_i hc
     simp only[zZr]at hc;have an:=L6 hc.1;have kV:=L8 hc.2
     split at h
     ·rename_i i hi
      obtain⟨_,rX,fH⟩:=Ma an kV hi;rw[Nat.sub_zero]at fH;cases h;have:=TQ (s:=S.den) m x v av aJ hd hm (Dx ai) hx an kV (TP az) fH;rw[iR];simp only[lA,wz];exact this
     ·rename_i hi
      cases h
      have:=TR (s:=S.den) m x v av aJ hd hm (Dx ai) hx an kV (TP az) (L9 kV hi);rw[iR];simp only[lA,wz];exact this
    ·cases h
   ·cases h
  ·cases h
 ·cases h
theorem zdv{x:Operand}(av:o.op= .next x true)(h:Mq P S o.dst (aR G S.den x)=some bV):eL P G o S.den bV.den:=by
 unfold Mq at h
 split at h
 ·rename_i id hx
  split at h
  ·rename_i b pos ai
   split at h
   ·rename_i ar
    split at h
    rename_i c k hd;cases h;have:=TS (P:=P) (s:=S.den) x av hx (Dx ai) (fz ar) hd;rw[iR];simp only[lA,wz];exact this
   ·rename_i ar
    cases h;rw[iR];refine(TT (s:=S.den) x av hx (Dx ai) ?_).step
    rcases Nat.lt_or_ge pos b.size with au|au
    ·rw[show zZs pos b.size=true from Nat.ble_eq_true_of_le au]at ar
     cases ar
    ·exact au
  ·cases h
 ·cases h
theorem zdw{f:Nat}{aI:List aC}(h:Hl P G S o=some (f,aI)): ∃p q xs,aI=p++xs.toList.map (aR G S.den)++q/\rO P G o S.den f p q xs:=by
 unfold Hl at h;rw[wA]at h
 split at h
 ·rename_i c av
  obtain⟨callee,args,ts⟩:=c;simp only at h
  split at h
  ·rename_i x
   split at h
   ·rename_i Mx p q hx
    cases h;exact⟨p,q,args,rfl,rO.value av hx⟩
   ·cases h
  ·rename_i x name
   split at h
   ·rename_i t a l hx
    split at h
    ·rename_i Mx v hm az
     cases h;refine⟨[v],[],args,rfl,rO.invoke av hm λE bo w β ro ah=>?_⟩
     have dh:=ah.eval x;rw[hx]at dh;generalize he:bo.eval x=rR at dh
     cases dh with
     |ad _ _ q=>
      cases q with
      |eE _ _ _ u pp aa ae=>
       refine⟨u,rfl,?_⟩;unfold G4 at az
       split at az
       ·cases az;exact Ha (.eE t _ _ u pp aa ae)
       ·cases az
        obtain⟨_,rfl⟩:=aa;exact .ad _ _ (ae 0 _ rfl)
       ·cases az
    ·cases h
   ·cases h
  ·cases h
 ·cases h
theorem zdx(fv:ia P G bX)(h:Mr P G bX o S=some bV):eL P G o S.den bV.den:=by
 unfold Mr at h;rw[wA]at h
 split at h
 ·rename_i t p x av
  exact zdt av h
 ·rename_i t av
  split at h
  ·rename_i zs aW
   split at h
   ·rename_i hc
    simp only[zZr]at hc;cases h;rw[iR,lA];exact My (s:=S.den) t av (zZq hc.2) aW hc.1
   ·cases h
  ·cases h
 ·rename_i t x av
  split at h
  ·rename_i hc
   simp only[zZr]at hc;cases h;rw[iR,lA];exact Mz (s:=S.den) t x av (zZq hc.2) hc.1
  ·cases h
 ·rename_i t len ps av
  split at h
  ·rename_i e n es ah af
   cases h;exact TK af (Dz av ah)
  ·cases h
 ·rename_i t x y av
  split at h
  ·rename_i e n bytes m qK aJ hx aA
   split at h
   ·rename_i zs aW
    split at h
    ·rename_i hc
     simp only[zZr]at hc;cases h;obtain⟨⟨aO,bz⟩,bd,dV,eK⟩:=hc;have bz:=e9 bz;subst bz;have dV:=zZq dV;have eK:=zZq eK;obtain⟨k,an⟩:=G2 hx;obtain⟨bl,fI⟩:=G2 aA;exact TK bd (zdy t x y av aJ aW aO an fI ⟨by simp only[maxLen];omega,by omega⟩)
    ·cases h
   ·cases h
  ·cases h
 ·rename_i t av
  split at h
  ·rename_i fr aJ af
   cases h;rw[iR,lA];exact TU (s:=S.den) _ t av (zZq af)
  ·cases h
 ·rename_i t m x v av
  exact zdu av h
 ·rename_i t x av
  split at h
  ·rename_i b hc hx
   simp only[zZr]at hc;cases h;rw[iR,lA];exact TV (s:=S.den) t x av (uP hc.1) hx (zZq hc.2)
  ·cases h
 ·rename_i x av
  exact zdv av h
 ·rename_i c av
  have hP: ∀{bV},(match Hl P G S o with
   |some (f,aI)=>match o6 P f,bX f aI S.h S.n with
    |true,some (r,h',b0)=>match wx (c7 S.h) S.n (c7 h')with
     |true=>some (bS.put (S.up S.l (h') (b0)) o.dst r)|false=>none
    |_,_=>none
   |none=>none)=some bV->eL P G o S.den bV.den:=λ{bV} h=>by
   split at h
   ·rename_i f aI hc
    obtain⟨p,q,xs,rfl,pT⟩:=zdw hc
    split at h
    ·rename_i r h' b0 iw ah
     split at h
     ·rename_i an
      cases h;rw[iR,lA];exact eL.zdb pT iw (fv _ _ _ _ _ _ _ ah) an
     ·cases h
    ·cases h
   ·cases h
  obtain⟨callee,args,ts⟩:=c;simp only at h
  split at h
  ·rename_i x y t br jV uS
   have aE:args= #[x,y]:=by rw[<-zZp];exact jV
   have bc:ts= #[t,br]:=by rw[<-zZp];exact uS
   subst aE bc;exact zds av h
  ·rename_i x y t br jV uS
   have aE:args= #[x,y]:=by rw[<-zZp];exact jV
   have bc:ts= #[t,br]:=by rw[<-zZp];exact uS
   subst aE bc
   split at h
   ·rename_i id hx
    split at h
    ·rename_i bt n es b0 ah hn
     split at h
     ·rename_i fs hf af
      cases h
      have af:=e9 af;subst af;have:=zdz (s:=S.den) av hn hx (Hp ah) hf;rw[iR];simp only[lA,wz];exact this
     ·cases h
    ·cases h
   ·cases h
  ·exact hP h
 ·cases h
theorem zdA(fv:ia P G bX){f:FuncId}{aI:List aC}(ar:Hn P G S o=some (f,aI))(h:Ms P bX o f aI S=some bV):pb P G o S.den bV.den:=by
 unfold Hn at ar;rw[wA]at ar
 split at ar
 ·rename_i c av
  obtain⟨callee,args,ts⟩:=c;simp only at ar
  split at ar
  ·rename_i x
   split at ar
   ·rename_i Mx hx
    split at ar
    ·rename_i DA
     cases ar;unfold Ms at h
     split at h
     ·rename_i r h' b0 hc ah
      split at h
      ·rename_i af
       cases h;simp only[zZr]at hc af
       have an:=fv _ _ _ _ _ _ _ ah
       have ba:fa P G f (args.toList.map λy=>jg (c7 S.h) (aR G S.den y)) [] 0 (λji cu=>ji=r/\cu=c7 h'):=λw β ro dY aa ae aw aN bx=>by
        refine Calls.mono (an w β ro dY aa ae aw aN bx) λe w' aB=>?_;obtain⟨v,cS,ro',he,az,a8,aJ⟩:=aB;exact⟨v,r,c7 h',cS,ro',b0,he,⟨rfl,rfl⟩,az,a8,aJ⟩
       have:=pb.call (s:=S.den) av hx hc.1 (args:=args.toList.map λy=>jg (c7 S.h) (aR G S.den y)) rfl DA ba (λ_ _ h=>h) af.1 af.2 (zZq hc.2);rw[iR,lA,TJ,TI];exact this
      ·cases h
     ·cases h
    ·cases ar
   ·cases ar
  ·cases ar
 ·cases ar
theorem TW(fv:ia P G bX)(h:Mt P G bX o S=some bV):eL P G o S.den bV.den/\(Mu P G S o=true\/pb P G o S.den bV.den):=by
 unfold Mt at h
 split at h
 ·rename_i v az
  cases h;rw[iR];exact⟨(Mh az).step,.inr (Mh az).MA⟩
 ·split at h
  ·rename_i hw
   split at h
   ·rename_i f aI ar
    have:=zdA fv ar h;exact⟨this.op,.inr this⟩
   ·rename_i ar
    exact⟨zdx fv h,.inl (by unfold Mu;rw[hw,ar];rfl)⟩
  ·cases h
end
end Go.aH
