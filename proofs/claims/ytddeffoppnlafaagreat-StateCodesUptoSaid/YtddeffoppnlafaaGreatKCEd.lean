/- CE, part D: the operations that write, computed. Conditions: none. -/
import Derived.Test.YtddeffoppnlafaaGreatKCEc
import Derived.Test.YtddeffoppnlafaaGreatKTDm1
namespace Go.aK
open Go
theorem bV.AL{s:aQ}{id:Nat}{t:TypeId}{n:Nat}{es:List (List aU)}(bf:aE s.heap id=some (.row false t n es)):bV s ⟨s.db,eA s.heap id (.row true t n es),s.next,s.base⟩:=by
 intro E G a w ⟨β,ro,h⟩
 have dS:=h.heap.dq id _ bf
 cases dS with
 |row _ _ _ xs dM hn hc=>
  have xU:de w (fun b=>ro b∨cz (β id)=some b) (.aq n es) (β id):=dM.Ej hn (fun j x aj=>(hc j x aj).keep (fun _ _=>rfl) fun _ h=>.inl h) fun b ag=>.inr ag
  have look: ∀k,aE (eA s.heap id (.row true t n es)) k=if id=k then some (.row true t n es)else aE s.heap k:=ur _ _ _
  have up: ∀x c,bA w ro s.heap β s.next x c→bA w (fun b=>ro b∨cz (β id)=some b) (eA s.heap id (.row true t n es)) β s.next x c:=fun x c hx=>
   hx.keep (fun _ _=>rfl) (fun _ h=>.inl h) (Nat.le_refl _) (fun k bh cs ai=>by
    rw[look]at ai
    split at ai
    ·cases ai
    ·exact⟨rfl,_,_,ai⟩) (fun k z bh bL eD ai=>by
    rw[look]at ai
    split at ai
    ·rename_i an
     subst an;cases ai;exact⟨rfl,_,_,_,bf⟩
    ·exact⟨rfl,_,_,_,ai⟩) (fun k bH ai=>by
    rw[look]at ai
    split at ai
    ·cases ai
    ·exact⟨rfl,_,ai⟩)
  have live: ∀{k:Nat} {o:ec},aE (eA s.heap id (.row true t n es)) k=some o→o.live=true→aE s.heap k=some o∧k≠id:=fun {k o} ai av=>by
   rw[look]at ai
   split at ai
   ·cases ai;cases av
   ·rename_i bW;exact⟨ai,fun e=>bW e.symm⟩
  have back: ∀{k:Nat} {o:ec},aE (eA s.heap id (.row true t n es)) k=some o→∃p,aE s.heap k=some p:=fun {k o} ai=>by
   rw[look]at ai
   split at ai
   ·rename_i an;subst an;exact⟨_,bf⟩
   ·exact⟨_,ai⟩
  refine⟨β,fun b=>ro b∨cz (β id)=some b,h.defers,h.size,fun i x hx=>up _ _ (h.slot i x hx),⟨fun k o ai=>?_,fun k a8 o cb b ai dQ av j2 ag gJ=>?_,fun b ag=>?_,fun b ag=>?_⟩,
   h.hL.keep (fun _ _=>rfl) fun _ h=>.inl h,?_,h.base⟩
  ·rw[look]at ai
   split at ai
   ·rename_i an
    subst an;cases ai;exact .fW t n es xU
   ·cases h.heap.dq k o ai with
    |box bh cs' b arr aD bg cM dU=>exact .box bh cs' b arr aD bg cM fun j x aj=>up _ _ (dU j x aj)
    |row bh bL eD AV aD bg cM=>exact .row bh bL eD AV aD bg fun j x aj=>(cM j x aj).keep (fun _ _=>rfl) fun _ h=>.inl h
    |fW bh bL eD aD=>exact .fW bh bL eD (aD.keep (fun _ _=>rfl) fun _ h=>.inl h)
    |bI bH b o aD bg cM=>exact .bI bH b o aD bg (bH.mono _ _ _ _ (fun x c h=>h.keep (fun _ _=>rfl) fun _ h=>.inl h) cM)
  ·exact h.heap.inj k a8 o cb b (live ai av).1 (live dQ j2).1 av j2 ag gJ
  ·rintro⟨k,o,ai,av,bc⟩
   obtain⟨ab,ae⟩:=live ai av
   rcases ag with ag|ag
   ·exact h.heap.e8 b ag ⟨k,o,ab,av,bc⟩
   ·exact ae (h.heap.inj k id o _ b ab bf av rfl bc ag)
  ·rcases ag with ag|ag
   ·exact h.heap.lt b ag
   ·exact(dM.iG ag).1
  ·have bh:=h.trans
   refine⟨bh.os,bh.tape,bh.output,bh.size,bh.frame,fun b ag=>?_,fun b ag=>.inl (bh.gA b ag),?_,fun k an o ai=>?_,fun k o ai=>?_,bh.le⟩
   ·rcases ag with ag|ag
    ·exact bh.hz b ag
    ·rcases bh.fU b ⟨id,_,bf,rfl,ag⟩with hc|hc
     ·exact .inr (.inl hc)
     ·exact .inr (.inr hc)
   ·rintro b ⟨k,o,ai,av,bc⟩
    exact bh.fU b ⟨k,o,(live ai av).1,av,bc⟩
   ·obtain⟨p,ar⟩:=back ai
    exact bh.ea k an p ar
   ·obtain⟨p,ar⟩:=back ai
    exact bh.new k p ar
def Ek(h:et)(id:Nat):et:=
 match nt h id with
 |some (.row false t n es)=>rn h id (.row true t n es)
 |_=>h
theorem Zj{l:bd aC}{N:Nat}{h:et}{n b:Nat}(id:Nat):bV (bD.den ⟨l,N,h,n,b⟩) (bD.den ⟨l,N,Ek h id,n,b⟩):=by
 unfold Ek
 split
 ·rename_i t m es ai
  have:=bV.AL (s:=bD.den ⟨l,N,h,n,b⟩) (id:=id) (t:=t) (n:=m) (es:=es) (by show aE (cX h) id=_;rw[sC,ai];rfl)
  simp only[bD.den,uh];exact this
 ·exact bV.refl _
def El:List Nat→et→et
 |[],h=>h
 |id::r,h=>El r (Ek h id)
theorem Q0{l:bd aC}{N n b:Nat}: ∀(ids:List Nat) (h:et),bV (bD.den ⟨l,N,h,n,b⟩) (bD.den ⟨l,N,El ids h,n,b⟩)
 |[],_=>bV.refl _
 |id::r,h=>(Zj id).trans (Q0 r (Ek h id))
mutual
def Em:aC→List Nat
 | .aq id=>[id]
 | .agg cs=>I4 cs
 | .tuple cs=>I4 cs
 |_=>[]
def I4:List aC→List Nat
 |[]=>[]
 |x::r=>Em x++I4 r
end
theorem bV.Zk{s:aQ}{i:Nat}{v:aC}(h:s.db[i]? =some v):bV s ⟨s.db.set i (im s.heap v),s.heap,s.next,s.base⟩:=by
 intro E G a w ⟨β,ro,ah⟩
 refine⟨β,ro,ah.defers,by simpa using ah.size,fun j x hx=>?_,ah.heap,ah.hL,ah.trans,ah.base⟩
 rw[List.getElem?_set]at hx
 split at hx
 ·rename_i nv
  subst nv
  split at hx
  ·cases hx
   exact Q1 ah.heap (ah.slot _ _ h)
  ·cases hx
 ·exact ah.slot j x hx
def I5(S:bD):Operand→bD
 | .tmp t=>match Nat.blt t S.N with
  |true=>match Em (S.at t)with
   |[]=>S
   |ids=>match El ids S.h with
    |h=>S.up (S.l.put t (im (cX h) (S.at t))) h S.n
  |false=>S
 |_=>S
theorem Zl(S:bD)(x:Operand):bV S.den (I5 S x).den:=by
 unfold I5
 split
 ·rename_i t
  split
  ·rename_i az
   split
   ·exact bV.refl _
   ·rename_i ids
    refine(Q0 (Em (S.at t)) S.h).trans ?_
    have:=bV.Zk (s:=bD.den ⟨S.l,S.N,El (Em (S.at t)) S.h,S.n,S.b⟩) (i:=t) (v:=S.at t) (by
     rw[IP];simp only[az]
     rfl)
    rw[kq,QO];exact this
  ·exact bV.refl _
 ·exact bV.refl _
def En:List Operand→bD→bD
 |[],S=>S
 |x::r,S=>En r (I5 S x)
theorem Eo: ∀(l:List Operand) (S:bD),bV S.den (En l S).den
 |[],_=>bV.refl _
 |x::r,S=>(Zl S x).trans (Eo r _)
def Zm(G:aR)(S:bD):Op→List Operand
 | .buildSlice _ _ ps=>ps.toList.map (·.2)
 | .makeInterface _ x=>[x]
 | .mapUpdate _ _ _ v=>[v]
 | .slice _ x _ _ _=>[x]
 | .store _ p x=>match fc G S p with
  | .dg _ _ _=>[x]
  |_=>[]
 |_=>[]
def Ep(G:aR)(o:Oper)(S:bD):bD:=En (Zm G S o.op) S
def Er(P:Program)(G:aR)(S:bD)(o:Oper):Option (Nat × List aC):=
 match o.op with
 | .call c=>match c.callee with
  | .value x=>match fc G S x with
   | .fn (.func f) p q=>some (f,p++c.args.toList.map (fc G S)++q)
   |_=>none
  | .invoke x name=>match fc G S x with
   | .ad (.ei t a l)=>match methodOf P t name,D9 a l with
    |some f,some v=>some (f,[v]++c.args.toList.map (fc G S)++[])
    |_,_=>none
   |_=>none
  |_=>none
 |_=>none
abbrev fe:=FuncId→List aC→et→Nat→Option (aC × et × Nat)
def hA(P:Program)(G:aR)(bZ:fe):Prop:=∀f args h n r h' bL,bZ f args h n=some (r,h',bL)→lO P G f args (cX h) n r (cX h') bL
def newRow(S:bD)(dst:Option Nat)(e n:Nat)(es:List (List aU)):bD:=bD.put (S.up S.l ((S.n,.row false e n es)::S.h) (S.n+1)) dst (.aq S.n)
def xV(S:bD)(id:Nat):Option (TypeId × Nat × List (List aU)):=
 match nt S.h id with
 |some (.row false t n es)=>some (t,n,es)
 |_=>none
def I6(P:Program)(S:bD)(dst:Option Nat)(t bh:TypeId)(x y:aC):Option bD:=
 match y with
 | .ad (.v (.string b))=>match vX P t bh with
  |some e=>match x with
   | .aq id=>match xV S id with
    |some (bg,gK,es)=>match(Nat.beq bg e&&Nat.beq gK 1)&&(Nat.ble S.b S.n&&Nat.ble (es.length+b.size) 16777216)with
     |true=>some (bD.put (S.up (S.l.map (ey id)) ((S.n,.row false e 1 (es++(ff b).map fun z=>[aU.v (.int .u8 z)]))::xP id S.h) (S.n+1)) dst (.aq S.n))
     |false=>none
    |none=>none
   | .ad (.v (.slice none 0 0))=>match Nat.ble S.b S.n&&Nat.ble b.size 16777216 with
    |true=>some (newRow S dst e 1 ((ff b).map fun z=>[aU.v (.int .u8 z)]))
    |false=>none
   |_=>none
  |none=>none
 |y=>match Nat.beq t bh,qa P t with
  |true,some (e,n,I7)=>match h0 (cX S.h) n y with
   |some fs=>match x with
    | .aq id=>match xV S id with
     |some (bg,gK,es)=>match(Nat.beq bg e&&Nat.beq gK n)&&(Nat.ble S.b S.n&&(Nat.ble (es.length+fs.length) 16777216&&Nat.ble ((es.length+fs.length)*I7) 16777216))with
      |true=>some (bD.put (S.up (S.l.map (ey id)) ((S.n,.row false e n (es++fs))::xP id S.h) (S.n+1)) dst (.aq S.n))
      |false=>none
     |none=>none
    | .ad (.v (.slice none 0 0))=>match Nat.ble S.b S.n&&(Nat.ble fs.length 16777216&&Nat.ble (fs.length*I7) 16777216)with
     |true=>some (newRow S dst e n fs)
     |false=>none
    |_=>none
   |none=>none
  |_,_=>none
def I8(P:Program)(S:bD)(dst:Option Nat)(t:TypeId)(p x:aC):Option bD:=
 match p with
 | .ptr id off=>match nt S.h id with
  |some (.box bt cs)=>match(c1 x).all (eZ (cX S.h))&&(decide ((P.info? t).map (·.size)=some (c1 x).length)&&Nat.ble (off+(c1 x).length) cs.length)with
   |true=>some (bD.put (S.up S.l (rn S.h id (.box bt (en cs off (c1 x)))) (S.n)) dst .top)
   |false=>none
  |_=>none
 | .dg id i off=>match xV S id with
  |some (bt,n,es)=>match es[i]?,jb (c1 x)with
   |some e,some vs=>match decide ((P.info? t).map (·.size)=some vs.length)&&Nat.ble (off+vs.length) n with
    |true=>some (bD.put (S.up S.l (rn S.h id (.row false bt n (es.set i (en e off vs)))) (S.n)) dst .top)
    |false=>none
   |_,_=>none
  |none=>none
 |_=>none
def I9:Bool→aC→Option (List aU)
 |true,.agg cs=>jb cs
 |false,.ad y=>some [y]
 |_,_=>none
def Ja(P:Program)(S:bD)(dst:Option Nat)(t:TypeId)(m x v:aC):Option bD:=
 match m with
 | .ref id=>match nt S.h id,x,P.underlying t with
  |some (.mp a l),.ad (.v k),some (.map fl _)=>match P.underlying fl,I9 a v with
   |some d,some cs=>match AM d k&&AN d l with
    |true=>match vT k l 0 with
     |some i=>some (bD.put (S.up S.l (rn S.h id (.mp a (l.set i (k,cs)))) (S.n)) dst .top)
     |none=>some (bD.put (S.up S.l (rn S.h id (.mp a (l++[(k,cs)]))) (S.n)) dst .top)
    |false=>none
   |_,_=>none
  |_,_,_=>none
 |_=>none
def Jb(P:Program)(S:bD)(dst:Option Nat)(x:aC):Option bD:=
 match x with
 | .ref id=>match nt S.h id with
  |some (.it b pos)=>match Nat.blt pos b.size with
   |true=>match Utf8.decode b pos with
    |(c,k)=>some (bD.put (S.up S.l (rn S.h id (.it b (pos+k))) (S.n)) dst (.tuple [.ad (.v (.bool true)),.ad (.v (.int .i64 (pos:Int))),.ad (.v (.int .i32 (c:Int)))]))
   |false=>some (S.put dst (.tuple [.ad (.v (.bool false))]))
  |_=>none
 |_=>none
def AW(o:Oper):Bool:=
 match o.op with
 | .store _ _ _=>true
 | .alloc _=>true
 | .box _ _=>true
 | .buildSlice _ _ _=>true
 | .makeSlice _ _ _=>true
 | .makeMap _ _=>true
 | .mapUpdate _ _ _ _=>true
 | .range _ _=>true
 | .next _ _=>true
 | .call c=>match c.callee with
  | .builtin .append=>true
  | .builtin .copy=>true
  | .value _=>true
  | .invoke _ _=>true
  |_=>false
 |_=>false
def Jc(P:Program)(G:aR)(bZ:fe)(o:Oper)(S:bD):Option bD:=
 match o.op with
 | .store t p x=>I8 P S o.dst t (fc G S p) (fc G S x)
 | .alloc t=>match zeroCells P t with
  |some zs=>match zs.all Value.oneCell'&&Nat.ble S.b S.n with
   |true=>some (bD.put (S.up S.l ((S.n,.box t (zs.map fun z=>.ad (.v z)))::S.h) (S.n+1)) o.dst (.ptr S.n 0))
   |false=>none
  |none=>none
 | .box t x=>match(c1 (fc G S x)).all (eZ (cX S.h))&&Nat.ble S.b S.n with
  |true=>some (bD.put (S.up S.l ((S.n,.box t (c1 (fc G S x)))::S.h) (S.n+1)) o.dst (.ptr S.n 0))
  |false=>none
 | .buildSlice t len ps=>match Y5 P (fc G S) (cX S.h) t len ps.toList,Nat.ble S.b S.n with
  |some (e,n,es),true=>some (newRow S o.dst e n es)
  |_,_=>none
 | .makeSlice t x y=>match qa P t,xO (fc G S x),xO (fc G S y)with
  |some (e,n,bytes),some m,some o6=>match zeroCells P e with
   |some zs=>match(zs.all Value.oneCell'&&Nat.beq m o6)&&(Nat.ble S.b S.n&&(Nat.ble m 16777216&&Nat.ble (bytes*m) 16777216))with
    |true=>some (newRow S o.dst e n (List.replicate m (zs.map aU.v)))
    |false=>none
   |none=>none
  |_,_,_=>none
 | .makeMap t none=>match P.underlying t,Nat.ble S.b S.n with
  |some (.map _ e1),true=>some (bD.put (S.up S.l ((S.n,.mp (mb P e1).isSome [])::S.h) (S.n+1)) o.dst (.ref S.n))
  |_,_=>none
 | .mapUpdate t m x v=>Ja P S o.dst t (fc G S m) (fc G S x) (fc G S v)
 | .range t x=>match isStr P t&&Nat.ble S.b S.n,fc G S x with
  |true,.ad (.v (.string b))=>some (bD.put (S.up S.l ((S.n,.it b 0)::S.h) (S.n+1)) o.dst (.ref S.n))
  |_,_=>none
 | .next x true=>Jb P S o.dst (fc G S x)
 | .call c=>match c.callee,c.args.toList,c.argTypes.toList with
  | .builtin .append,[x,y],[t,bh]=>I6 P S o.dst t bh (fc G S x) (fc G S y)
  | .builtin .copy,[x,y],[t,_]=>match fc G S x with
   | .aq id=>match xV S id,kS P t with
    |some (bt,n,es),some bL=>match h0 (cX S.h) n (fc G S y),Nat.beq n bL with
     |some fs,true=>some (bD.put (S.up S.l (rn S.h id (.row false bt n (fs.take es.length++es.drop fs.length))) (S.n)) o.dst (xW ((Nat.min fs.length es.length:Nat):Int)))
     |_,_=>none
    |_,_=>none
   |_=>none
  |_,_,_=>match Er P G S o with
   |some (f,aI)=>match nr P f,bZ f aI S.h S.n with
    |true,some (r,h',bL)=>match uf (cX S.h) S.n (cX h')with
     |true=>some (bD.put (S.up S.l (h') (bL)) o.dst r)
     |false=>none
    |_,_=>none
   |none=>none
 |_=>none
def Es(P:Program):Nat→TypeId→Bool
 |0,_=>false
 |n+1,t=>match P.underlying t with
  |some .bool=>true
  |some (.int _)=>true
  |some .string=>true
  |some (.func _ _ _)=>true
  |some (.slice e)=>Es P n e
  |some (.array _ e)=>Es P n e
  |some (.struct fs)=>fs.toList.all fun f=>Es P n f.type
  |_=>false
def AX(P:Program)(o:Oper):Bool:=AW o&&match o.op with
 | .call c=>match c.callee with
  | .value _=>!(c.argTypes.toList.all (Es P 8))
  |_=>true
 |_=>true
def Et(P:Program)(G:aR)(S:bD)(o:Oper):Option (FuncId × List aC):=
 match o.op with
 | .call c=>match c.callee with
  | .value x=>match fc G S x with
   | .fn (.func f) [] []=>match c.args.toList.map (fun y=>im (cX S.h) (fc G S y))with
    |aI=>match fX aI with
     |true=>some (f,aI)
     |false=>none
   |_=>none
  |_=>none
 |_=>none
def il.shift(d:Nat):il→il
 | .box t cs=>.box t (nw d cs)
 |o=>o
def Eu(d:Nat):et→et
 |[]=>[]
 |(k,o)::r=>(d+k,o.shift d)::Eu d r
theorem Q2(d:Nat): ∀h:et,cX (Eu d h)=mg d (cX h)
 |[]=>rfl
 |(k,o)::r=>by
  cases o<;>simp only[Eu,cX,il.shift,il.den,mg,Q2 d r]
theorem Q3: ∀h k:et,cX (h++k)=cX h++cX k
 |[],_=>rfl
 |(i,o)::r,k=>by
  show(i,o.den)::cX (r++k)=_;rw[Q3 r k];rfl
def Jd(P:Program)(bZ:fe)(o:Oper)(f:FuncId)(aI:List aC)(S:bD):Option bD:=
 match nr P f&&Nat.ble S.b S.n,bZ f aI [] 0 with
 |true,some (r,h',bL)=>match iq bL r&&kU bL (cX h')with
  |true=>some (bD.put (S.up S.l (Eu S.n h'++S.h) (S.n+bL)) o.dst (AY S.n r))
  |false=>none
 |_,_=>none
def Je(P:Program)(G:aR)(bZ:fe)(o:Oper)(S:bD):Option bD:=
 match Ed P G o S with
 |some v=>some (S.put o.dst v)
 |none=>match AW o with
  |true=>match Et P G S o with
   |some (f,aI)=>Jd P bZ o f aI S
   |none=>Jc P G bZ o S
  |false=>none
def Jf(P:Program)(G:aR)(S:bD)(o:Oper):Bool:=AW o&&(Et P G S o).isNone
section
variable {P:Program} {G:aR} {o:Oper} {S bP:bD} {bZ:fe}
theorem Ev{id:Nat}{t n:Nat}{es:List (List aU)}(h:xV S id=some (t,n,es)):aE S.den.heap id=some (.row false t n es):=by
 unfold xV at h
 split at h
 ·rename_i ai
  cases h;show aE (cX S.h) id=_;rw[sC,ai];rfl
 ·cases h
theorem AZ{id:Nat}{o:il}(h:nt S.h id=some o):aE S.den.heap id=some o.den:=by
 show aE (cX S.h) id=_
 rw[sC,h]
 rfl
theorem Q4{e n:Nat}{es:List (List aU)}(ag:Nat.ble S.b S.n=true)(h:uu P G o S.den e n es):ep P G o S.den (newRow S o.dst e n es).den:=by
 have:=ep.newRow (Nat.le_of_ble_eq_true ag) h
 unfold newRow
 rw[h1,kq]
 exact this
theorem Zn{x y:Operand}{t bh:TypeId}(au:o.op= .call {callee:=.builtin .append,args:=#[x,y],argTypes:=#[t,bh]})(h:I6 P S o.dst t bh (aP G S.den x) (aP G S.den y)=some bP):ep P G o S.den bP.den:=by
 unfold I6 at h
 split at h
 ·rename_i b aA
  split at h
  ·rename_i e aJ
   split at h
   ·rename_i id hx
    split at h
    ·rename_i bg gK es ah
     split at h
     ·rename_i hc
      simp only[Bool.and_eq_true]at hc;cases h;obtain⟨⟨aB,bU⟩,b7,c2⟩:=hc
      have aB:=eI aB
      have bU:=eI bU
      subst aB bU
      have c2:=Nat.le_of_ble_eq_true c2
      have:=Q5 x y t bh au aJ hx (Ev ah) (Nat.le_of_ble_eq_true b7) aA ⟨by simp only[maxLen];omega,by omega⟩
      rw[h1];simp only[kq,cX,Ea,IF (ey id) rfl,←IE];exact this
     ·cases h
    ·cases h
   ·rename_i hx
    split at h
    ·rename_i hc
     simp only[Bool.and_eq_true]at hc;cases h
     have c2:=Nat.le_of_ble_eq_true hc.2
     have:=Q6 x y t bh au aJ hx (Nat.le_of_ble_eq_true hc.1) aA ⟨by simp only[maxLen];omega,by omega⟩
     unfold newRow;rw[h1,kq];exact this
    ·cases h
   ·cases h
  ·cases h
 ·rename_i sH _
  split at h
  ·rename_i e n I7 A0 aJ
   have A0:=eI A0
   subst A0
   split at h
   ·rename_i fs aA
    split at h
    ·rename_i id hx
     split at h
     ·rename_i bg gK es ah
      split at h
      ·rename_i hc
       simp only[Bool.and_eq_true]at hc;cases h;obtain⟨⟨aB,bU⟩,b7,c2,dT⟩:=hc
       have aB:=eI aB
       have bU:=eI bU
       subst aB bU
       have c2:=Nat.le_of_ble_eq_true c2
       have dT:=Nat.le_of_ble_eq_true dT
       have:=Q7 x y t au aJ hx (Ev ah) (Nat.le_of_ble_eq_true b7) aA ⟨by simp only[maxLen];omega,by omega⟩
       rw[h1];simp only[kq,cX,Ea,IF (ey id) rfl,←IE];exact this
      ·cases h
     ·cases h
    ·rename_i hx
     split at h
     ·rename_i hc
      simp only[Bool.and_eq_true]at hc;cases h
      have c2:=Nat.le_of_ble_eq_true hc.2.1
      have dT:=Nat.le_of_ble_eq_true hc.2.2
      have:=Q8 x y t au aJ hx (Nat.le_of_ble_eq_true hc.1) aA ⟨by simp only[maxLen];omega,by omega⟩
      unfold newRow;rw[h1,kq];exact this
     ·cases h
    ·cases h
   ·cases h
  ·cases h
theorem Zo{t:TypeId}{p x:Operand}(au:o.op= .store t p x)(h:I8 P S o.dst t (aP G S.den p) (aP G S.den x)=some bP):ep P G o S.den bP.den:=by
 unfold I8 at h
 split at h
 ·rename_i id off ar
  split at h
  ·rename_i bt cs ai
   split at h
   ·rename_i hc
    simp only[Bool.and_eq_true,decide_eq_true_eq]at hc;cases h
    have:=Jg (s:=S.den) t p x au ar (AZ ai) rfl hc.1 hc.2.1 (Nat.le_of_ble_eq_true hc.2.2)
    rw[h1];simp only[kq,uh];exact this
   ·cases h
  ·cases h
 ·rename_i id i off ar
  split at h
  ·rename_i bt n es ah
   split at h
   ·rename_i e vs he az
    split at h
    ·rename_i hc
     simp only[Bool.and_eq_true,decide_eq_true_eq]at hc;cases h
     have:=Jh (s:=S.den) t p x au ar (Ev ah) he az hc.1 (Nat.le_of_ble_eq_true hc.2)
     rw[h1];simp only[kq,uh];exact this
    ·cases h
   ·cases h
  ·cases h
 ·cases h
theorem Q9{a:Bool}{v:aC}{cs:List aU}(h:I9 a v=some cs):rq a cs v:=by
 unfold I9 at h
 split at h
 ·rw[xS h]
  simp[rq]
 ·cases h
  simp[rq]
 ·cases h
theorem Zp{t:TypeId}{m x v:Operand}(au:o.op= .mapUpdate t m x v)(h:Ja P S o.dst t (aP G S.den m) (aP G S.den x) (aP G S.den v)=some bP):ep P G o S.den bP.den:=by
 unfold Ja at h
 split at h
 ·rename_i id hm
  split at h
  ·rename_i a l k fl e1 ai hx aJ
   split at h
   ·rename_i d cs hd az
    split at h
    ·rename_i hc
     simp only[Bool.and_eq_true]at hc
     have an:=IQ hc.1
     have j1:=IT hc.2
     split at h
     ·rename_i i hi
      obtain⟨_,qb,fj⟩:=IV an j1 hi;rw[Nat.sub_zero]at fj;cases h
      have:=Ra (s:=S.den) m x v au aJ hd hm (AZ ai) hx an j1 (Q9 az) fj
      rw[h1];simp only[kq,uh];exact this
     ·rename_i hi
      cases h
      have:=Rb (s:=S.den) m x v au aJ hd hm (AZ ai) hx an j1 (Q9 az) (IU j1 hi)
      rw[h1];simp only[kq,uh];exact this
    ·cases h
   ·cases h
  ·cases h
 ·cases h
theorem Zq{x:Operand}(au:o.op= .next x true)(h:Jb P S o.dst (aP G S.den x)=some bP):ep P G o S.den bP.den:=by
 unfold Jb at h
 split at h
 ·rename_i id hx
  split at h
  ·rename_i b pos ai
   split at h
   ·rename_i ar
    split at h
    rename_i c k hd;cases h
    have:=Rc (P:=P) (s:=S.den) x au hx (AZ ai) (e9 ar) hd
    rw[h1];simp only[kq,uh];exact this
   ·rename_i ar
    cases h;rw[h1];refine(Re (s:=S.den) x au hx (AZ ai) ?_).step
    rcases Nat.lt_or_ge pos b.size with av|av
    ·rw[show Nat.blt pos b.size=true from Nat.ble_eq_true_of_le av]at ar
     cases ar
    ·exact av
  ·cases h
 ·cases h
theorem Zr{f:Nat}{aI:List aC}(h:Er P G S o=some (f,aI)): ∃p q xs,aI=p++xs.toList.map (aP G S.den)++q∧p2 P G o S.den f p q xs:=by
 unfold Er at h
 rw[ui]at h
 split at h
 ·rename_i c au
  obtain⟨callee,args,ts⟩:=c;simp only at h
  split at h
  ·rename_i x
   split at h
   ·rename_i Ji p q hx
    cases h;exact⟨p,q,args,rfl,p2.value au hx⟩
   ·cases h
  ·rename_i x name
   split at h
   ·rename_i t a l hx
    split at h
    ·rename_i Ji v hm az
     cases h;refine⟨[v],[],args,rfl,p2.invoke au hm fun E bb w β ro ah=>?_⟩
     have c5:=ah.eval x
     rw[hx]at c5;generalize he:bb.eval x=p5 at c5
     cases c5 with
     |ad _ _ q=>
      cases q with
      |ei _ _ _ u pp ab ae=>
       refine⟨u,rfl,?_⟩
       unfold D9 at az
       split at az
       ·cases az;exact Ef (.ei t _ _ u pp ab ae)
       ·cases az
        obtain⟨_,rfl⟩:=ab;exact .ad _ _ (ae 0 _ rfl)
       ·cases az
    ·cases h
   ·cases h
  ·cases h
 ·cases h
theorem Zs(e4:hA P G bZ)(h:Jc P G bZ o S=some bP):ep P G o S.den bP.den:=by
 unfold Jc at h
 rw[ui]at h
 split at h
 ·rename_i t p x au
  exact Zo au h
 ·rename_i t au
  split at h
  ·rename_i zs aT
   split at h
   ·rename_i hc
    simp only[Bool.and_eq_true]at hc;cases h;rw[h1,kq];exact Jj (s:=S.den) t au (Nat.le_of_ble_eq_true hc.2) aT hc.1
   ·cases h
  ·cases h
 ·rename_i t x au
  split at h
  ·rename_i hc
   simp only[Bool.and_eq_true]at hc;cases h;rw[h1,kq];exact Jk (s:=S.den) t x au (Nat.le_of_ble_eq_true hc.2) hc.1
  ·cases h
 ·rename_i t len ps au
  split at h
  ·rename_i e n es ah ag
   cases h;exact Q4 ag (A1 au ah)
  ·cases h
 ·rename_i t x y au
  split at h
  ·rename_i e n bytes m o6 aJ hx aA
   split at h
   ·rename_i zs aT
    split at h
    ·rename_i hc
     simp only[Bool.and_eq_true]at hc;cases h;obtain⟨⟨aB,bU⟩,b7,c2,dT⟩:=hc
     have bU:=eI bU
     subst bU
     have c2:=Nat.le_of_ble_eq_true c2
     have dT:=Nat.le_of_ble_eq_true dT
     obtain⟨k,an⟩:=D7 hx;obtain⟨a8,fk⟩:=D7 aA;exact Q4 b7 (Zt t x y au aJ aT aB an fk ⟨by simp only[maxLen];omega,by omega⟩)
    ·cases h
   ·cases h
  ·cases h
 ·rename_i t au
  split at h
  ·rename_i e1 aJ ag
   cases h;rw[h1,kq];exact Rf (s:=S.den) _ t au (Nat.le_of_ble_eq_true ag)
  ·cases h
 ·rename_i t m x v au
  exact Zp au h
 ·rename_i t x au
  split at h
  ·rename_i b hc hx
   simp only[Bool.and_eq_true]at hc;cases h;rw[h1,kq];exact Rg (s:=S.den) t x au (sE hc.1) hx (Nat.le_of_ble_eq_true hc.2)
  ·cases h
 ·rename_i x au
  exact Zq au h
 ·rename_i c au
  have gY: ∀{bP},(match Er P G S o with
   |some (f,aI)=>match nr P f,bZ f aI S.h S.n with
    |true,some (r,h',bL)=>match uf (cX S.h) S.n (cX h')with
     |true=>some (bD.put (S.up S.l (h') (bL)) o.dst r)
     |false=>none
    |_,_=>none
   |none=>none)=some bP→ep P G o S.den bP.den:=fun {bP} h=>by
   split at h
   ·rename_i f aI hc
    obtain⟨p,q,xs,rfl,oa⟩:=Zr hc
    split at h
    ·rename_i r h' bL hJ ah
     split at h
     ·rename_i an
      cases h;rw[h1,kq];exact ep.Y6 oa hJ (e4 _ _ _ _ _ _ _ ah) an
     ·cases h
    ·cases h
   ·cases h
  obtain⟨callee,args,ts⟩:=c;simp only at h
  split at h
  ·rename_i x y t bh jc sI
   have aD:args= #[x,y]:=by rw[←Array.toList_inj];exact jc
   have bg:ts= #[t,bh]:=by rw[←Array.toList_inj];exact sI
   subst aD bg;exact Zn au h
  ·rename_i x y t bh jc sI
   have aD:args= #[x,y]:=by rw[←Array.toList_inj];exact jc
   have bg:ts= #[t,bh]:=by rw[←Array.toList_inj];exact sI
   subst aD bg
   split at h
   ·rename_i id hx
    split at h
    ·rename_i bt n es bL ah hn
     split at h
     ·rename_i fs hf ag
      cases h
      have ag:=eI ag
      subst ag
      have:=Zu (s:=S.den) au hn hx (Ev ah) hf
      rw[h1];simp only[kq,uh];exact this
     ·cases h
    ·cases h
   ·cases h
  ·exact gY h
 ·cases h
theorem Zv(e4:hA P G bZ){f:FuncId}{aI:List aC}(ar:Et P G S o=some (f,aI))(h:Jd P bZ o f aI S=some bP):nx P G o S.den bP.den:=by
 unfold Et at ar
 rw[ui]at ar
 split at ar
 ·rename_i c au
  obtain⟨callee,args,ts⟩:=c;simp only at ar
  split at ar
  ·rename_i x
   split at ar
   ·rename_i Ji hx
    split at ar
    ·rename_i A2
     cases ar;unfold Jd at h
     split at h
     ·rename_i r h' bL hc ah
      split at h
      ·rename_i ag
       cases h;simp only[Bool.and_eq_true]at hc ag
       have an:=e4 _ _ _ _ _ _ _ ah
       have a6:eJ P G f (args.toList.map fun y=>im (cX S.h) (aP G S.den y)) [] 0 (fun iP cc=>iP=r∧cc=cX h'):=fun w β ro dJ ab ae aw aM bn=>by
        refine Calls.mono (an w β ro dJ ab ae aw aM bn) fun e w' aG=>?_
        obtain⟨v,cK,ro',he,az,aV,aJ⟩:=aG;exact⟨v,r,cX h',cK,ro',bL,he,⟨rfl,rfl⟩,az,aV,aJ⟩
       have:=nx.call (s:=S.den) au hx hc.1 (args:=args.toList.map fun y=>im (cX S.h) (aP G S.den y)) rfl A2 a6 (fun _ _ h=>h) ag.1 ag.2 (Nat.le_of_ble_eq_true hc.2)
       rw[h1,kq,Q3,Q2];exact this
      ·cases h
     ·cases h
    ·cases ar
   ·cases ar
  ·cases ar
 ·cases ar
theorem Rh(e4:hA P G bZ)(h:Je P G bZ o S=some bP):ep P G o S.den bP.den∧(Jf P G S o=true∨nx P G o S.den bP.den):=by
 unfold Je at h
 split at h
 ·rename_i v az
  cases h;rw[h1];exact⟨(I2 az).step,.inr (I2 az).Jl⟩
 ·split at h
  ·rename_i hw
   split at h
   ·rename_i f aI ar
    have:=Zv e4 ar h
    exact⟨this.op,.inr this⟩
   ·rename_i ar
    exact⟨Zs e4 h,.inl (by unfold Jf;rw[hw,ar];rfl)⟩
  ·cases h
end
end Go.aK
