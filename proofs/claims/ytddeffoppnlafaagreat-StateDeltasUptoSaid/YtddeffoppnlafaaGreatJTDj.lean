/- Conditions: none. -/
import Derived.Test.YtddeffoppnlafaaGreatJTDg
import Derived.Laws.Externs
import Derived.Laws.LoneSync
import Derived.LaidEqlPtr
open Bool renaming and_eq_true->zZr,and_true->zW4
open Int renaming le_refl->zW1,lt_of_le_of_lt->zW2,toNat_natCast->zW8,toNat_of_nonneg->zW7
open List renaming all_cons->zW3,all_eq_true->zZ2,drop_drop->zW5,getD->zZ8,getElem?_cons_zero->zXb,getElem?_eq_getElem->zZa,getElem?_eq_some_iff->zZ1,getElem?_map->zYo,length->zZ5,length_map->zXe,map_congr_left->zW9,map_cons->zXq,map_drop->zWc,map_map->zWq,map_nil->zXp,map_take->zWe,mem_singleton->zW0,range->zYj
open List.cons renaming injEq->zW6
open Nat renaming add_zero->zYh,beq->zZu,ble->zZt,blt->zZs,eq_of_beq_eq_true->zWi,le_of_ble_eq_true->zZq
open Option renaming isSome_iff_exists->zVz,map_eq_some_iff->zZ3,map_some->zXh
open Option.some renaming injEq->zYt
namespace Go.aH
open Go
structure eC where
 xs:List cf
 ns:List hj
 v:ag
def ag.rt:ag->Option a6
 | .bE r _=>match r.one with
  |true=>some r|false=>none
 | .fd _ _ _ r=>match r.one with
  |true=>some r|false=>none
 | .cs (.int k _)=>some (.int k)| .cs (.bool _)=>some .bool| .cs (.string _)=>some .str|_=>none
theorem Fw(r:a6):jO r r=true:=decide_eq_true rfl
theorem OS{x:ag}{r:a6}(h:x.rt=some r):x.fN r=true/\x.isNil=false:=by
 unfold ag.rt at h
 split at h
 ·split at h
  ·rename_i aa;cases h;exact⟨by simp[ag.fN,Fw,aa],rfl⟩
  ·cases h
 ·split at h
  ·rename_i aa;cases h;exact⟨by simp[ag.fN,Fw,aa],rfl⟩
  ·cases h
 ·cases h;exact⟨by simp[ag.fN,Fw],rfl⟩
 ·cases h;exact⟨by simp[ag.fN,Fw],rfl⟩
 ·cases h;exact⟨by simp[ag.fN,Fw],rfl⟩
 ·cases h
theorem hH{G:aV}{e:Env}{x:ag}{r:a6}(h:x.rt=some r):x.den G e= .ad (hb r (x.aL e r)):=Jv (OS h).1 (OS h).2
theorem mr{G:aV}{e:Env}{x:ag}{k:IntKind}(h:x.rt=some (.int k)):x.den G e= .ad (.v (.int k (x.aL e (.int k)))):=hH h
theorem pD{e:Env}{x:ag}{k:IntKind}(h:x.rt=some (.int k)):cQ (x.dyn e)=x.aL e (.int k):=by
 obtain⟨aa,ae⟩:=OS h;unfold ag.aL;rw[XC ae]
 cases x with
 |bE q i=>
  simp only[ag.fN,zZr]at aa
  cases jr aa.1
  simp only[ag.dyn,df,cQ]
 |fd c i j q=>
  simp only[ag.fN,zZr]at aa
  cases jr aa.1
  simp only[ag.dyn,df,cQ]
 |cs v=>
  cases v with
  |int bl n=>
   cases jr aa
   simp only[ag.dyn,df,cQ]
  |bool b=>cases jr aa
  |string s=>cases jr aa
  |slice a n c=>unfold ag.fN at aa;split at aa<;>first|cases aa|simp_all
  |_=>cases aa
 |_=>cases aa
def isLen(f:cx)(x:ag)(n:Nat):List cv->Bool
 |[]=>false| .d1 i g y::r=>match zZu i n&&(decide (g=f)&&Fp y x)with
  |true=>true|false=>isLen f x n r
 |_::r=>isLen f x n r
theorem BZ{f:cx}{x:ag}{n:Nat}{e:Env}: ∀{l:List cv},isLen f x n l=true->(∀c∈l,c.ok e)->Env.at e n=⟨f.c,f.den (x.aL e f.a)⟩
 | .d1 i g y::r,h,hc=>by
  simp only[isLen]at h
  split at h
  ·rename_i af
   simp only[zZr,decide_eq_true_eq]at af;have:=hc (.d1 i g y) (by simp)
   simp only[cv.ok]at this;rw[<-zWi af.1,this,af.2.1,OM af.2.2]
  ·exact BZ h λc hm=>hc c (by simp[hm])
 | .d2 _ _ _ _::r,h,hc=>BZ (l:=r) h λc hm=>hc c (by simp[hm])
 | .rg _ _::r,h,hc=>BZ (l:=r) h λc hm=>hc c (by simp[hm])
 | .fb _ _::r,h,hc=>BZ (l:=r) h λc hm=>hc c (by simp[hm])
def XV(f:cx)(x:ag)(i:Nat)(all:List cv):cv->Bool
 | .rg j (.bE (.int .i64) n)=>zZu i j&&isLen f x n all|_=>false
def JJ(f:cx)(x:ag)(i:Nat)(all:List cv):List cv->Bool
 |[]=>false|c::r=>match XV f x i all c with
  |true=>true|false=>JJ f x i all r
theorem OT{f:cx}{x:ag}{i:Nat}{e:Env}{all:List cv}{L:Int}(h2: ∀n,isLen f x n all=true->Env.at e n=⟨.int .i64,L⟩): ∀{l:List cv},JJ f x i all l=true->(∀c∈l,c.ok e)->0<=cQ (Env.at e i)/\cQ (Env.at e i)<L
 |c::r,h,hc=>by
  simp only[JJ]at h
  split at h
  ·rename_i af
   unfold XV at af
   split at af
   ·rename_i j n
    simp only[zZr]at af;have aa:=hc (.rg j (.bE (.int .i64) n)) (by simp)
    simp only[cv.ok,ag.dyn,h2 n af.2,df,cQ]at aa;rw[<-zWi af.1]at aa;exact aa
   ·cases af
  ·exact OT h2 h λc hm=>hc c (by simp[hm])
def Fx(len j:Nat):List cv->Bool
 | .rg i (.cs (.int _ (.ofNat m)))::r=>(zZu i j&&zZt m len)||Fx len j r
 |_::r=>Fx len j r|[]=>false
theorem OU{len j:Nat}{e:Env}: ∀{l:List cv},Fx len j l=true->(∀c∈l,c.ok e)->0<=cQ (Env.at e j)/\cQ (Env.at e j)<(len:Int)
 |[],h,_=>by cases h
 |c::r,h,hc=>by
  unfold Fx at h
  split at h
  ·rename_i i k m _ heq
   cases heq;simp only[Bool.or_eq_true,zZr]at h
   rcases h with⟨aa,ae⟩|h
   ·have aw:0<=cQ (Env.at e i)/\cQ (Env.at e i)<(m:Int):=hc (.rg i (.cs (.int k (.ofNat m)))) (by simp)
    rw[<-zWi aa];have:=zZq ae;omega
   ·exact OU h λc hm=>hc c (by simp[hm])
  ·rename_i e5 _ heq
   cases heq;exact OU h λc hm=>hc c (by simp[hm])
  ·rename_i heq;cases heq
def B0(g:List cv)(len:Nat)(i:ag):List hj:=
 match i with
 | .bE (.int _) j=>match Fx len j g with
  |true=>[]|false=>[.nth len i]
 |_=>[.nth len i]
theorem JK{M:List bs}{g:List cv}{len:Nat}{i:ag}{e:Env}(ai: ∀c∈g,c.ok e)(h: ∀n∈B0 g len i,n.ok M e):0<=cQ (i.dyn e)/\cQ (i.dyn e)<(len:Int):=by
 unfold B0 at h
 split at h
 ·rename_i k j
  split at h
  ·rename_i af
   have:=OU af ai;simp only[ag.dyn]
   by_cases ah:(Env.at e j).r= .int k
   ·rw[Jo ah];exact this
   ·have aP:cQ ⟨.int k,(Env.at e j).aI (.int k)⟩=0:=by
     unfold aK.aI
     split
     ·rename_i a8 _;exact absurd a8 ah
     ·rfl
    rw[aP];omega
  ·exact h _ (zW0.2 rfl)
 ·exact h _ (zW0.2 rfl)
def sC(g:List cv)(f:cx)(q:gy)(x i:ag):List hj:=
 match i with
 | .bE (.int _) j=>match JJ f x j g g with
  |true=>[]|false=>[.f2 0 q x i]
 |_=>[.f2 0 q x i]
theorem B1{M:List bs}{g:List cv}{c:bZ}{k:IntKind}{x i:ag}{e:Env}(ai: ∀c∈g,c.ok e)(hi:i.rt=some (.int k))(h: ∀n∈sC g (.la c) (.mR c k) x i,n.ok M e):
 0<=i.aL e (.int k)/\i.aL e (.int k)<(zZ5 (x.aL e (.li c)):Int):=by
 unfold sC at h
 split at h
 ·rename_i bl j
  split at h
  ·rename_i af
   have:=OT (f:=.la c) (λn hn=>BZ hn ai) af ai;rw[<-pD hi];simp only[ag.dyn];have an:bl=k:=by simp only[ag.rt,a6.one]at hi;cases hi;rfl
   subst an
   by_cases ah:(Env.at e j).r= .int bl
   ·rw[Jo ah];exact this
   ·have aP:cQ ⟨.int bl,(Env.at e j).aI (.int bl)⟩=0:=by
     unfold aK.aI
     split
     ·rename_i a8 _;exact absurd a8 ah
     ·rfl
    rw[aP];exact⟨zW1 _,zW2 this.1 this.2⟩
  ·exact h _ (zW0.2 rfl)
 ·exact h _ (zW0.2 rfl)
theorem ziE{M:List bs}{g:List cv}{k:IntKind}{x i:ag}{e:Env}(ai: ∀c∈g,c.ok e)(hi:i.rt=some (.int k))(h: ∀n∈sC g .rh (.vv k) x i,n.ok M e):
 0<=i.aL e (.int k)/\i.aL e (.int k)<(ByteArray.size (x.aL e .str):Int):=by
 unfold sC at h
 split at h
 ·rename_i bl j
  split at h
  ·rename_i af
   have:=OT (f:=.rh) (λn hn=>BZ hn ai) af ai;rw[<-pD hi];simp only[ag.dyn];have an:bl=k:=by simp only[ag.rt,a6.one]at hi;cases hi;rfl
   subst an
   by_cases ah:(Env.at e j).r= .int bl
   ·rw[Jo ah];exact this
   ·have aP:cQ ⟨.int bl,(Env.at e j).aI (.int bl)⟩=0:=by
     unfold aK.aI
     split
     ·rename_i a8 _;exact absurd a8 ah
     ·rfl
    rw[aP];exact⟨zW1 _,zW2 this.1 this.2⟩
  ·exact h _ (zW0.2 rfl)
 ·exact h _ (zW0.2 rfl)
end Go.aH
namespace Go.aH
open Go
def nv(h:List (Nat × b1)):ag->Bool
 | .bE _ _=>true| .fd _ _ _ _=>true| .cs _=>true| .ip _ _ _=>true| .fn _ _ _=>true| .fi id _=>match dG h id with
  |some (.dQ _ _)=>true|_=>false
 | .iY id _ _ _=>match dG h id with
  |some (.dQ _ _)=>true|_=>false
 | .gC _ (some id) _=>match dG h id with
  |some (.dQ _ _)=>true|_=>false
 | .aq id=>match dG h id with
  |some (.rw _ _ _)=>true|_=>false
 | .iM id _ _=>match dG h id with
  |some (.rw _ _ _)=>true|_=>false
 |_=>false
def zw(S:ax):ag->Option (List ag)
 | .fi id off=>match dG S.h id with
  |some (.dQ _ l)=>some (l.drop off)|_=>none
 | .ip c i k=>some ((k9 c i 0 (fR c)).drop k)|_=>none
def vB(P:Program)(t:TypeId)(l:List ag):Option ag:=
 match nF P t with
 |some n=>match zZt n l.length&&zZt 1 n with
  |true=>some (.cH (l.take n))|false=>none
 |none=>match scalar P t,l with
  |true,y::_=>some y|_,_=>none
def xu(S:ax):ag->Bool
 | .fi id _=>match dG S.h id with
  |some (.dQ _ _)=>true|_=>false
 | .iY id _ _ _=>match dG S.h id with
  |some (.dQ _ _)=>true|_=>false
 | .ip _ _ _=>true| .iM id _ _=>match dG S.h id with
  |some (.rw _ _ _)=>true|_=>false
 |_=>false
def B2(k:Nat):ag->Option ag
 | .fi id off=>some (.fi id (off+k))| .ip c i j=>some (.ip c i (j+k))| .iM id x off=>some (.iM id x (off+k))| .iY id off x n=>some (.iY id (off+k) x n)|_=>none
def vC(place:Nat->Option (Nat × Nat)):List ag->List (Nat × ag)->Option (List ag)
 |l,[]=>some l|l,(i,v)::rest=>match place i with
  |some (off,size)=>match zZu v.cells.length size&&zZt (off+size) l.length with
   |true=>vC place (eJ l off v.cells) rest|false=>none
  |none=>none
section
variable {P:Program} {G:aV} {o:Oper} {N B:Nat} {e:Env} {S:ax} {M:List bs}
theorem XW{h:List (Nat × b1)}{x:ag}(hx:nv h x=true):fp (di G e h) (x.den G e)=true/\dc (x.den G e)=[x.den G e]:=by
 cases x with
 |fi id off=>
  simp only[nv]at hx
  split at hx
  ·rename_i t l ai
   simp[ag.den,fp,fx,ai,b1.den,dc]
  ·cases hx
 |iY id off x n=>
  simp only[nv]at hx
  split at hx
  ·rename_i t l ai
   simp[ag.den,fp,fx,ai,b1.den,dc]
  ·cases hx
 |aq id=>
  simp only[nv]at hx
  split at hx
  ·rename_i t c y ai
   simp[ag.den,fp,fx,ai,b1.den,dc]
  ·cases hx
 |iM id x off=>
  simp only[nv]at hx
  split at hx
  ·rename_i t c y ai
   simp[ag.den,fp,fx,ai,b1.den,dc]
  ·cases hx
 |cH l=>cases hx
 |tp l=>cases hx
 |jb id=>cases hx
 |hg g b x=>cases hx
 |mo g off=>cases hx
 |top=>cases hx
 |cM k n=>cases hx
 |gC g id off=>
  cases id with
  |none=>cases hx
  |some id=>
   simp only[nv]at hx
   split at hx
   ·rename_i t l ai
    simp only[ag.den]
    cases g.aL e .bool<;>simp[fp,fx,ai,b1.den,dc]
   ·cases hx
 |_=>exact⟨rfl,rfl⟩
theorem B3{h:List (Nat × b1)}: ∀{l:List ag},l.all (nv h)=true->(ag.cc G e l).all (fp (di G e h))=true
 |[],_=>rfl|x::r,hx=>by
  simp only[zW3,zZr]at hx;simp only[ag.cc,zW3,(XW hx.1).1,B3 hx.2,Bool.and_self]
theorem zx{h:List (Nat × b1)}{x:ag}(hx:x.cells.all (nv h)=true):dc (x.den G e)=ag.cc G e x.cells:=by
 cases x with
 |cH l=>rfl|_=>
  simp only[ag.cells,zW3,List.all_nil,zW4]at hx;simp only[(XW hx).2,ag.cells,ag.cc]
theorem OV(k:Nat)(l:List ag):ag.cc G e (l.drop k)=(ag.cc G e l).drop k:=by rw[gh,gh,zWc]
theorem qq(l:List ag):(ag.cc G e l).length=l.length:=by rw[gh,zXe]
theorem Fy{p:ag}{l:List ag}(h:zw S p=some l):gj (S.den G N B e).heap (p.den G e)=some (ag.cc G e l):=by
 unfold zw at h
 split at h
 ·split at h
  ·rename_i id off t dF ai
   cases h;simp only[ax.den,ag.den,gj,fx,ai,zXh,b1.den];rw[gh,gh,zWc]
  ·cases h
 ·rename_i c i k
  cases h;simp only[ag.den,gj,zYt];rw[OV,xk,zWc]
 ·cases h
theorem XX{t:TypeId}{x:Operand}{l:List ag}{v:ag}(av:o.op= .load t x)(hc:gj (S.den G N B e).heap (aR G (S.den G N B e) x)=some (ag.cc G e l))(az:vB P t l=some v):c8 P G o (S.den G N B e) (v.den G e):=by
 unfold vB at az
 split at az
 ·rename_i n hn
  split at az
  ·rename_i af
   simp only[zZr]at af;cases az;have:=We t x av hn hc (by rw[qq];exact zZq af.1) (zZq af.2)
   simp only[ag.den];rw[gh]at this;rw[gh,zWe];exact this
  ·cases az
 ·split at az
  ·rename_i y r ao
   cases az;exact NI t x av ao hc
  ·cases az
theorem zy{p:ag}(h:xu S p=true):ka (S.den G N B e).heap (p.den G e)=true:=by
 unfold xu at h
 split at h
 ·split at h
  ·rename_i ai;simp[ax.den,ag.den,ka,fx,ai,b1.den]
  ·cases h
 ·split at h
  ·rename_i ai;simp[ax.den,ag.den,ka,fx,ai,b1.den]
  ·cases h
 ·rfl
 ·split at h
  ·rename_i ai;simp[ax.den,ag.den,ka,fx,ai,b1.den]
  ·cases h
 ·cases h
theorem Fz{k:Nat}{p q:ag}(h:B2 k p=some q):rN k (p.den G e)=q.den G e:=by
 unfold B2 at h
 split at h
 ·cases h;simp[ag.den,rN]
 ·cases h;simp[ag.den,rN,zW5,Nat.add_comm]
 ·cases h;simp[ag.den,rN]
 ·cases h;simp only[ag.den,rN,aC.ptr.injEq,true_and];omega
 ·cases h
theorem JL{α β:Type}(f:α->β)(l:List α)(off:Nat)(vs:List α):(eJ l off vs).map f=eJ (l.map f) off (vs.map f):=by
 simp[eJ,zWe,zWc]
theorem JM{pl:Nat->Option (Nat × Nat)}{h:List (Nat × b1)}: ∀{ps:List (Nat × ag)} {l ds:List ag},(ps.all λp=>p.2.cells.all (nv h))=true->vC pl l ps=some ds->lr pl (ag.cc G e l) (ps.map λp=>(p.1,p.2.den G e))=some (ag.cc G e ds)
 |[],l,ds,_,hf=>by
  simp only[vC,zYt]at hf;subst hf;rfl
 |(i,v)::rest,l,ds,ba,hf=>by
  simp only[zW3,zZr]at ba;simp only[vC]at hf;simp only[zXq,lr]
  split at hf
  ·rename_i off size ar
   split at hf
   ·rename_i af
    simp only[zZr]at af;have aa:=zWi af.1;have ae:=zZq af.2;have az:=zx (G:=G) (e:=e) ba.1;simp only[ar,az,qq];rw[if_pos ⟨aa,ae⟩];have:=JM ba.2 hf;rw[gh]at this⊢;rw[JL]at this;rw[gh];exact this
   ·cases hf
  ·cases hf
def kj(P:Program)(G:aV)(N B:Nat)(M:List bs)(o:Oper)(S:ax)(r:eC):Prop:=
 ∀e,(∀c∈S.g,c.ok e)->(∀(j:Nat) (x:cf),r.xs[j]? =some x->Env.at e (S.k+j)=x.den M e)->(∀n∈r.ns,n.ok M e)->c8 P G o (S.den G N B e) (r.v.den G e)
end
def OW(op:BinOp)(k bl:IntKind)(x y:ag):List hj:=
 match op with
 | .add=>[]| .sub=>[]| .mul=>[]| .and=>[]| .or=>[]| .xor=>[]| .quo=>match y with
  | .cs (.int _ n)=>match decide (n=0)with
   |false=>[]|true=>[.f2 0 (.lK op k bl) x y]
  |_=>[.f2 0 (.lK op k bl) x y]
 | .rem=>match y with
  | .cs (.int _ n)=>match decide (n=0)with
   |false=>[]|true=>[.f2 0 (.lK op k bl) x y]
  |_=>[.f2 0 (.lK op k bl) x y]
 |op=>match y with
  | .cs (.int _ n)=>match decide (0<=n)with
   |true=>[]|false=>[.f2 0 (.lK op k bl) x y]
  |_=>[.f2 0 (.lK op k bl) x y]
def OX(P:Program)(S:ax)(op:BinOp)(cR:TypeId)(x y:ag):Option eC:=
 match x.rt,y.rt with
 |some (.int k),some (.int bl)=>match OQ op k bl with
  |true=>some ⟨[.f2 (.lK op k bl) x y],OW op k bl x y,.bE (.int k) S.k⟩|false=>match BY op&&decide (bl=k)with
   |true=>some ⟨[.f2 (.ss op k) x y],[],.bE .bool S.k⟩|false=>none
 |some .str,some .str=>match BY op with
  |true=>some ⟨[.f2 (.BO op) x y],[],.bE .bool S.k⟩|false=>match op with
   | .add=>some ⟨[.f2 .xl x y],[.f2 0 .xl x y],.bE .str S.k⟩|_=>none
 |some .bool,some .bool=>match op,De P cR with
  | .eql,true=>some ⟨[.f2 (.qO false) x y],[],.bE .bool S.k⟩| .neq,true=>some ⟨[.f2 (.qO true) x y],[],.bE .bool S.k⟩|_,_=>none
 |_,_=>match x,y with
  | .cH l,.cH m=>match o4 P cR with
   |some fs=>match sB P 64 0 fs with
    |some rs=>match js rs l&&js rs m,op with
     |true,.eql=>some ⟨[.Fi false rs l m],[],.bE .bool S.k⟩|true,.neq=>some ⟨[.Fi true rs l m],[],.bE .bool S.k⟩|_,_=>none
    |none=>none
   |none=>none
  |p,.cs (.pointer none)=>match P.underlying cR,xu S p,op with
   |some (.pointer _),true,.eql=>some ⟨[],[],.cs (.bool false)⟩|some (.pointer _),true,.neq=>some ⟨[],[],.cs (.bool true)⟩|_,_,_=>none
  |_,_=>none
section
variable {P:Program} {G:aV} {o:Oper} {N B:Nat} {e:Env} {S:ax} {M:List bs}
theorem ziF{e:Env}{f:gy}{x y:ag}{k:Nat}(h:Env.at e k=(cf.f2 f x y).den M e):(ag.bE f.c k).den G e= .ad (hb f.c (f.den (x.aL e f.a) (y.aL e f.b))):=by
 simp only[ag.den,h,cf.den,df]
theorem ziG{e:Env}{f:cx}{x:ag}{k:Nat}(h:Env.at e k=(cf.f1 f x).den M e):(ag.bE f.c k).den G e= .ad (hb f.c (f.den (x.aL e f.a))):=by
 simp only[ag.den,h,cf.den,df]
theorem ub{s:aS}{f:gy}{x y:ag}{k:Nat}(h:Env.at e k=(cf.f2 f x y).den M e)(ao:c8 P G o s (.ad (hb f.c (f.den (x.aL e f.a) (y.aL e f.b))))):c8 P G o s ((ag.bE f.c k).den G e):=by
 rw[ziF h];exact ao
theorem uc{s:aS}{f:cx}{x:ag}{k:Nat}(h:Env.at e k=(cf.f1 f x).den M e)(ao:c8 P G o s (.ad (hb f.c (f.den (x.aL e f.a))))):c8 P G o s ((ag.bE f.c k).den G e):=by
 rw[ziG h];exact ao
theorem ziH{op:BinOp}{k bl:IntKind}{x y:ag}(aA:y.rt=some (.int bl))(h: ∀n∈OW op k bl x y,n.ok M e):Jx op (y.aL e (.int bl)):=by
 have hc: ∀n eO,y= .cs (.int eO n)->y.aL e (.int bl)=n:=λn eO a8=>by
  subst a8;simp only[ag.rt,zYt,a6.int.injEq]at aA;subst aA;simp only[ag.aL,ag.hh,ag.dyn,df]
 have ao: ∀JN,((∃q,JN=q)->hj.ok M e (.f2 0 (.lK JN k bl) x y)->Jx JN (y.aL e (.int bl))):=λJN _ h=>h
 cases op<;>try exact trivial
 all_goals
  simp only[OW]at h
  split at h
  ·rename_i eO n
   have hn:=hc n eO rfl
   split at h
   ·rename_i hd
    rw[hn];simp only[decide_eq_false_iff_not,decide_eq_true_eq]at hd;exact hd
   ·exact h _ (zW0.2 rfl)
  ·exact h _ (zW0.2 rfl)
theorem ziI{op:BinOp}{cR ty:TypeId}{x y:Operand}{r:eC}(av:o.op= .binOp op cR x y ty)(h:OX P S op cR (S.bj N x) (S.bj N y)=some r):kj P G N B M o S r:=λe hf hx hn=>by
 unfold OX at h
 split at h
 ·rename_i k bl aa ae
  have jH:aR G (S.den G N B e) x=_:=(b3 hf x).trans (mr aa);have pC:aR G (S.den G N B e) y=_:=(b3 hf y).trans (mr ae)
  split at h
  ·rename_i ba
   cases h;exact ub (f:=.lK op k bl) (hx 0 _ rfl) (ziw av jH pC ba (ziH ae hn))
  ·split at h
   ·rename_i hc
    cases h;simp only[zZr,decide_eq_true_eq]at hc
    have an:=hc.2;subst an;exact ub (f:=.ss op bl) (hx 0 _ rfl) (zix av jH pC hc.1)
   ·cases h
 ·rename_i aa ae
  have jH:aR G (S.den G N B e) x=_:=(b3 hf x).trans (hH aa);have pC:aR G (S.den G N B e) y=_:=(b3 hf y).trans (hH ae)
  split at h
  ·rename_i hc
   cases h;exact ub (f:=.BO op) (hx 0 _ rfl) (ziy av jH pC hc)
  ·split at h
   ·cases h
    exact ub (f:=.xl) (hx 0 _ rfl) (zhp cR ty x y av jH pC (hn _ (zW0.2 rfl)))
   ·cases h
 ·rename_i aa ae
  have jH:aR G (S.den G N B e) x=_:=(b3 hf x).trans (hH aa);have pC:aR G (S.den G N B e) y=_:=(b3 hf y).trans (hH ae)
  split at h
  ·rename_i aJ
   cases h;exact ub (f:=.qO false) (hx 0 _ rfl) (Wu cR ty x y av (Jh aJ) jH pC)
  ·rename_i aJ
   cases h;exact ub (f:=.qO true) (hx 0 _ rfl) (Wv cR ty x y av (Jh aJ) jH pC)
  ·cases h
 ·split at h
  ·rename_i l m au hm
   split at h
   ·rename_i fs re
    split at h
    ·rename_i rs hZ
     split at h
     ·rename_i af
      cases h;simp only[zZr]at af
      have:=XU (G:=G) (n:=false) (B:=B) (e:=e) hf rfl av re hZ au hm af.1 af.2;have aP:Env.at e S.k=_:=hx 0 _ rfl;simp only[ag.den,aP,cf.den,df,hb,mP];exact this
     ·rename_i af
      cases h;simp only[zZr]at af
      have:=XU (G:=G) (n:=true) (B:=B) (e:=e) hf rfl av re hZ au hm af.1 af.2;have aP:Env.at e S.k=_:=hx 0 _ rfl;simp only[ag.den,aP,cf.den,df,hb,mP];exact this
     ·cases h
    ·cases h
   ·cases h
  ·rename_i ar
   have key: ∀E a w β ro,dy E G (S.den G N B e) a w β ro->xu S (S.bj N x)=true->∃dj,a.eval x= .pointer (some dj):=λE a w β ro ah hi=>by
    obtain⟨dj,hc,_⟩:=EE (zy (G:=G) (N:=N) (B:=B) (e:=e) hi) (by have:=ah.eval x;rw[b3 hf]at this;exact this)
    exact⟨dj,hc⟩
   have ud: ∀E a w β ro,dy E G (S.den G N B e) a w β ro->a.eval y= .pointer none:=λE a w β ro ah=>by
    refine ah.ef ?_;rw[b3 hf,ar];rfl
   split at h
   ·rename_i t hu hi
    cases h
    exact λE a w β ro ah=>by
     obtain⟨dj,hc⟩:=key E a w β ro ah hi;exact⟨.bool false,by simp[execOp,av,hc,ud E a w β ro ah,eqGuard_at_pointer,run_eql_pointer_nil w cR (some dj) (Xz hu)],.fu rfl⟩
   ·rename_i t hu hi
    cases h
    exact λE a w β ro ah=>by
     obtain⟨dj,hc⟩:=key E a w β ro ah hi;exact⟨.bool true,by simp[execOp,av,hc,ud E a w β ro ah,eqGuard_at_pointer,run_neq_pointer_nil w cR (some dj) (Xz hu)],.fu rfl⟩
   ·cases h
  ·cases h
end
end Go.aH
namespace Go.aH
open Go
def sD:List a6->List Value->Bool
 |[],[]=>true
 |r::rs,z::zs=>(match r,z with
  | .int k,.int bl n=>decide (k=bl)&&decide (n=0)| .bool,.bool b=>!b| .str,.string s=>decide (s=⟨#[]⟩)| .li _,.slice none 0 0=>true
  |_,_=>false)&&sD rs zs
 |_,_=>false
def zz:TypeDesc->Option a6
 | .string=>some .str| .int k=>some (.int k)|_=>none
def B4(v:a6)(z:Value):Bool:=
 match v,z with
 | .st c,.agg a=>sD (fR c) a.toList&&a.toList.all Value.oneCell'| .st _,_=>false|r,z=>sD [r] [z]&&z.oneCell'
def qt(v:a6)(i:Nat):ag:=
 match v with
 | .st c=>.cH (k9 c i 0 (fR c))|r=>.bE r i
def JO:List a6->Bool
 |[]=>true| .mp _ _::_=>false|_::r=>JO r
def JP(v:a6):Bool:=
 match v with
 | .st c=>JO (fR c)| .int _=>true| .bool=>true| .str=>true|_=>false
def OY(S:ax)(m:ag):Option (a6 × a6 × ag):=
 match m with
 | .jb id=>match dG S.h id with
  |some (.it (.mp k v) _ p)=>some (k,v,p)|_=>none
 |x=>match x.rt with
  |some (.mp k v)=>some (k,v,x)|_=>none
def OZ(P:Program)(S:ax)(t:TypeId)(m x:ag)(c:Bool):Option eC:=
 match P.underlying t,OY S m with
 |some (.map fK fr),some (k,v,p)=>match(P.underlying fK).bind zz,(P.info? fr).bind (·.zero)with
  |some bl,some z=>match jO bl k&&(x.fN k&&(B4 v z&&JP v))with
   |true=>match c with
    |true=>some ⟨[.BS k v p x,.zp k v p x],[],.tp [qt v (S.k+1),.bE .bool S.k]⟩|false=>some ⟨[.zp k v p x],[],qt v S.k⟩
   |false=>none
  |_,_=>none
 |_,_=>none
section
variable {P:Program} {G:aV} {N B:Nat} {M:List bs} {S:ax} {o:Oper}
theorem B5: ∀{rs:List a6} {zs:List Value},sD rs zs=true->zs.map a7.v=rs.map λr=>E0 (hb r r.gL)
 |[],[],_=>rfl|[],_::_,h=>by cases h
 |_::_,[],h=>by cases h
 |r::rs,z::zs,h=>by
  simp only[sD,zZr]at h;rw[zXq,zXq,B5 h.2]
  congr 1
  have aa:=h.1
  split at aa
  ·simp only[zZr,decide_eq_true_eq]at aa
   obtain⟨rfl,rfl⟩:=aa;rfl
  ·simp only[Bool.not_eq_true']at aa
   subst aa;rfl
  ·have:=of_decide_eq_true aa
   subst this;rfl
  ·rfl
  ·cases aa
theorem XY(c:bZ):dr c (aZ c)=(fR c).map λr=>hb r r.gL:=by cases c<;>rfl
theorem XZ{e:Env}{r:a6}{i:Nat}{d:r.den}(h:Env.at e i=⟨r,d⟩):(ag.bE r i).aL e r=d:=by
 simp only[ag.aL,ag.hh,ag.dyn,h,df]
theorem ziJ{c:bZ}(h:JO (fR c)=true)(x:hY c):(hN c x).map (λd=>mP d.r d.v)=dr c x:=by
 unfold dr;rw[<-Oo c x]at h;revert h;generalize hN c x=l
 induction l with
 |nil=>intro _;rfl|cons d r bb=>
  intro h;obtain⟨t,v⟩:=d;simp only[zXq]at h⊢
  cases t<;>first|(simp only[JO]at h;rw[bb h];rfl)|cases h
theorem ziK{v:a6}{i:Nat}{e:Env}{ev:v.den}(h:Env.at e i=⟨v,ev⟩)(az:JP v=true):(qt v i).den G e=wB v.agg (kI v ev):=by
 cases v with
 |st c=>
  simp only[JP]at az;simp only[qt,ag.den,xk,h,df,a6.agg,wB,kI,ziJ az]
 |int k=>simp only[qt,ag.den,h,df]<;>rfl
 |bool=>simp only[qt,ag.den,h,df]<;>rfl
 |str=>simp only[qt,ag.den,h,df]<;>rfl
 |_=>cases az
theorem ue{x:a7}{v:Value}(h:a7.v v=E0 x)(az:v.oneCell'=true):Sub (.ad (.v v)) (.ad x):=λw ro σ β N c hc=>by
 cases hc with
 |ad _ _ hc=>
  cases hc;exact .ad _ _ (Xc h.symm az)
theorem X0: ∀{rs:List a6} {zs:List Value},sD rs zs=true->zs.all Value.oneCell'=true->h1 (zs.map λv=>aC.ad (.v v)) ((rs.map λr=>hb r r.gL).map .ad)
 |[],[],_,_=>.nil|[],_::_,h,_=>by cases h
 |_::_,[],h,_=>by cases h
 |r::rs,z::zs,h,av=>by
  simp only[zW3,zZr]at av
  have aa:sD [r] [z]=true:=by
   simp only[sD,zZr]at h⊢;exact⟨h.1,trivial⟩
  have ae:sD rs zs=true:=by
   simp only[sD,zZr]at h;exact h.2
  have aE:=B5 aa;simp only[zXq,zXp,zW6,and_true]at aE;exact .cons (ue aE av.1) (X0 ae av.2)
theorem X1{v:a6}{i:Nat}{e:Env}{z:Value}(h:Env.at e i=⟨v,v.gL⟩)(az:JP v=true)(aW:B4 v z=true):Sub (nH z) ((qt v i).den G e)/\rP z=true:=by
 cases v with
 |st c=>
  cases z with
  |agg a=>
   simp only[B4,zZr]at aW;refine⟨?_,aW.2⟩;simp only[qt,ag.den,xk,h,df,nH,a6.gL,XY];exact(X0 aW.1 aW.2).agg
  |_=>cases aW
 |int k=>
  simp only[B4,zZr]at aW;have aE:=B5 aW.1;simp only[zXq,zXp,zW6,and_true]at aE
  cases z with
  |int bl n=>exact⟨by simp only[qt,ag.den,h,df,nH];exact ue aE aW.2,aW.2⟩|_=>first|cases aW.1|cases aW.2
 |bool=>
  simp only[B4,zZr]at aW;have aE:=B5 aW.1;simp only[zXq,zXp,zW6,and_true]at aE
  cases z with
  |bool b=>exact⟨by simp only[qt,ag.den,h,df,nH];exact ue aE aW.2,aW.2⟩|_=>first|cases aW.1|cases aW.2
 |str=>
  simp only[B4,zZr]at aW;have aE:=B5 aW.1;simp only[zXq,zXp,zW6,and_true]at aE
  cases z with
  |string b=>exact⟨by simp only[qt,ag.den,h,df,nH];exact ue aE aW.2,aW.2⟩|_=>first|cases aW.1|cases aW.2
 |_=>cases az
theorem X2{k v:a6}(l:List (k.den × v.den)):hb (.mp k v) l=BI v.agg (h0 (n6 k) (kI v) l):=by
 unfold BI h0;rw[zWq,zWq];rfl
theorem ziL{fK:TypeId}{k:a6}(h:(P.underlying fK).bind zz=some k): ∃d,P.underlying fK=some d/\((k= .str/\d= .string)\/∃j,k= .int j/\d= .int j):=by
 cases hd:P.underlying fK with
 |none=>rw[hd]at h;cases h
 |some d=>
  rw[hd]at h;have an:zz d=some k:=h;refine⟨d,rfl,?_⟩;unfold zz at an
  split at an
  ·cases an;exact .inl ⟨rfl,rfl⟩
  ·cases an;exact .inr ⟨_,rfl,rfl⟩
  ·cases an
theorem ziM{k v:a6}{m:Operand}{p:ag}{e:Env}(hf: ∀c∈S.g,c.ok e)(h:OY S (S.bj N m)=some (k,v,p)):ou G (S.den G N B e) m v.agg (h0 (n6 k) (kI v) (p.aL e (.mp k v))):=by
 unfold OY at h
 split at h
 ·rename_i id hm
  split at h
  ·rename_i bl bC dD q ai
   cases h
   have JQ:aR G (S.den G N B e) m= .ref id:=by rw[b3 hf,hm];rfl
   have bq:aF (S.den G N B e).heap id=some (.bW (lz v.agg (h0 (n6 k) (kI v) (p.aL e (.mp k v))))):=by
    simp only[ax.den,fx,ai,zXh];rfl
   exact ou.own JQ bq
  ·cases h
 ·split at h
  ·rename_i bl bC ah
   cases h;refine ou.Xj ?_
   rw[b3 hf,hH ah,X2]
  ·cases h
theorem ziN{t:TypeId}{m x:Operand}{c:Bool}{r:eC}(av:o.op= .lookup t m x c)(h:OZ P S t (S.bj N m) (S.bj N x) c=some r):kj P G N B M o S r:=λe hf hx hn=>by
 unfold OZ at h
 split at h
 ·rename_i fK fr k v p hu B6
  split at h
  ·rename_i bl z ziO aW
   split at h
   ·rename_i hc
    simp only[zZr]at hc;obtain⟨aO,bd,dV,eK⟩:=hc
    cases jr aO
    obtain⟨d,hd,jP⟩:=ziL ziO;have gx:=ziM (G:=G) (N:=N) (B:=B) hf B6
    have key: ∀w:aC,(∀ev b,(Fj k (p.aL e (.mp k v)) ((S.bj N x).aL e k)).getD v.gL=ev->(Fj k (p.aL e (.mp k v)) ((S.bj N x).aL e k)).isSome=b->∀y,(b=true->y=wB v.agg (kI v ev))->(b=false->ev=v.gL/\y=nH z)->Sub (yf c y b) w)->rP z=true->c8 P G o (S.den G N B e) w:=by
     intro w hw lZ
     cases aB:Fj k (p.aL e (.mp k v)) ((S.bj N x).aL e k)with
     |some ev=>
      rw[aB]at hw;refine c8.sub ?_ (hw ev true rfl rfl _ (λ_=>rfl) (λq=>by cases q))
      rcases jP with⟨rfl,rfl⟩|⟨j,rfl,rfl⟩
      ·have lN:aR G (S.den G N B e) x= .ad (.v (n6 .str ((S.bj N x).aL e .str))):=by rw[b3 hf];exact OG bd
       exact Xq (K:=ByteArray) Oz (kI v) v.agg _ _ ev c av hu hd gx lN aB
      ·have lN:aR G (S.den G N B e) x= .ad (.v (n6 (.int j) ((S.bj N x).aL e (.int j)))):=by rw[b3 hf];exact Jw bd
       exact Xq (K:=Int) (OA j) (kI v) v.agg _ _ ev c av hu hd gx lN aB
     |none=>
      rw[aB]at hw;refine c8.sub ?_ (hw v.gL false rfl rfl _ (λq=>by cases q) (λ_=>⟨rfl,rfl⟩))
      rcases jP with⟨rfl,rfl⟩|⟨j,rfl,rfl⟩
      ·have lN:aR G (S.den G N B e) x= .ad (.v (n6 .str ((S.bj N x).aL e .str))):=by rw[b3 hf];exact OG bd
       exact Xr (K:=ByteArray) Oz (kI v) v.agg _ _ c z av hu hd gx lN aB aW lZ
      ·have lN:aR G (S.den G N B e) x= .ad (.v (n6 (.int j) ((S.bj N x).aL e (.int j)))):=by rw[b3 hf];exact Jw bd
       exact Xr (K:=Int) (OA j) (kI v) v.agg _ _ c z av hu hd gx lN aB aW lZ
    have sub: ∀{i:Nat} {ev:v.den} {b:Bool} {y:aC},Env.at e i=⟨v,ev⟩->(b=true->y=wB v.agg (kI v ev))->(b=false->ev=v.gL/\y=nH z)->Sub y ((qt v i).den G e):=by
     intro i ev b y hi aa ae
     cases b with
     |true=>rw[aa rfl,ziK hi eK];exact Sub.refl _|false=>
      obtain⟨dp,dP⟩:=ae rfl;subst dp;rw[dP];exact(X1 hi eK dV).1
    have lZ:rP z=true:=(X1 (G:=G) (i:=0) (e:=bn.put .emp 0 ⟨v,v.gL⟩) (by rw[Env.mn,if_pos rfl]) eK dV).2
    split at h
    ·cases h
     have aP:=hx 0 _ rfl;have aa:=hx 1 _ rfl;simp only[zYh,cf.den]at aP aa;refine key _ (λev b aE bc y g1 g2=>?_) lZ;refine h1.tuple (.cons (sub (aa.trans (by rw[<-aE])) g1 g2) (.cons ?_ .nil))
     simp only[ag.den,aP,df];rw[<-bc];exact Sub.refl _
    ·cases h
     have aP:=hx 0 _ rfl;simp only[zYh,cf.den]at aP;exact key _ (λev b aE bc y g1 g2=>sub (aP.trans (by rw[<-aE])) g1 g2) lZ
   ·cases h
  ·cases h
 ·cases h
end
end Go.aH
namespace Go.aH
open Go
def ag.xv(x g:ag)(b:Bool):ag:=
 match x with
 | .hg h c v=>match Fp g h&&(decide (c=b))with
  |true=>v|false=>x
 |x=>x
def O0(S:ax)(c x y:ag):Option eC:=
 match c,n9 c S.g with
 | .cs (.bool b),_=>some ⟨[],[],match b with|true=>x|false=>y⟩
 |c,some b=>match c.rt with
  |some .bool=>some ⟨[],[],match b with|true=>x|false=>y⟩
  |_=>none
 |c,none=>match c.rt with
  |some .bool=>match(match(x.xv c true).rt with|some r=>some r|none=>(y.xv c false).rt)with
   |some r=>match(x.xv c true).fN r&&((y.xv c false).fN r&&r.one)with
    |true=>some ⟨[.Jy r c (x.xv c true) (y.xv c false)],[],.bE r S.k⟩|false=>none
   |none=>none
  |_=>none
def xw(r:a6):List ag->Bool
 |[]=>true|x::l=>x.fN r&&xw r l
def X3:List ag->Option a6
 |[]=>none|x::_=>x.rt
def O1(P:Program)(S:ax)(t:TypeId)(x i:ag):Option eC:=
 match x with
 | .cH l=>match P.underlying t with
  |some (.array len el)=>match scalar P el&&zZu l.length len,(P.info? el).map (·.size)with
   |true,some 1=>match i with
    | .cs (.int .i64 (.ofNat j))=>match l[j]? with
     |some v=>some ⟨[],[],v⟩|none=>none
    |i=>match i.rt,X3 l with
     |some (.int .i64),some r=>match xw r l&&r.one with
      |true=>some ⟨[.nth r l i],B0 S.g l.length i,.bE r S.k⟩|false=>none
     |_,_=>none
   |_,_=>none
  |_=>none
 |x=>match x.rt,i.rt,isStr P t with
  |some .str,some (.int k),true=>some ⟨[.f2 (.vv k) x i],sC S.g .rh (.vv k) x i,.bE (.int .u8) S.k⟩|_,_,_=>none
def zA(x:ag):Option bZ:=
 match x.rt with
 |some (.li c)=>some c|_=>none
def ziP(P:Program)(t:TypeId)(n:Nat):Option bZ:=
 match P.underlying t with
 |some (.slice el)=>zhZ.find? λc=>zZu n (dE c)&&(vB P el (k9 c 0 0 (fR c))).isSome
 |_=>none
def Ay(P:Program)(f:Nat):Nat:=
 match P.funcs[f]? with
 |some fn=>match fn.body.isNone&&fn.origin== "",fn.name== "internal/abi.NoEscape",fn.name== "internal/bytealg.IndexByteString" with
  |true,true,_=>1|true,false,true=>2|_,_,_=>0
 |none=>0
def O2(P:Program)(S:ax)(f:ag)(aI:List ag):Option eC:=
 match f with
 | .fn (.func f) [] []=>match Ay P f,aI with
  |1,[x]=>some ⟨[],[],x⟩|2,[x,y]=>match x.rt,y.rt with
   |some .str,some (.int .u8)=>some ⟨[.f2 .BQ x y],[],.bE (.int .i64) S.k⟩|_,_=>none
  |_,_=>none
 |_=>none
def O3(P:Program)(S:ax)(t:TypeId)(x i:ag):Option eC:=
 match i.rt with
 |some (.int k)=>match lY P t with
  |some n=>match x with
   | .aq id=>match dG S.h id with
    |some (.rw _ c y)=>match zZu n (dE c)with
     |true=>some ⟨[],sC S.g (.la c) (.mR c k) y i,.iM id i 0⟩|false=>none
    |_=>none
   | .cM id m=>match dG S.h id,i with
    |some (.dQ _ _),.cs (.int _ (.ofNat j))=>match zZs j m with
     |true=>some ⟨[],[],.fi id (j*n)⟩|false=>none
    |_,_=>none
   |x=>match zA x with
    |some c=>match zZu n (dE c)with
     |true=>some ⟨[.f2 (.mR c k) x i],sC S.g (.la c) (.mR c k) x i,.ip c S.k 0⟩|false=>none
    |none=>match x.isNil,ziP P t n with
     |true,some c=>some ⟨[.f2 (.mR c k) x i],[.f2 0 (.mR c k) x i],.ip c S.k 0⟩|_,_=>none
  |none=>match wq P t,zw S x with
   |some (len,n),some _=>match i,x with
    | .cs (.int _ (.ofNat j)),x=>match zZs j len,B2 (j*n) x with
     |true,some p=>some ⟨[],[],p⟩|_,_=>none
    |i,.fi id off=>some ⟨[],B0 S.g len i,.iY id off i n⟩|_,_=>none
   |_,_=>none
 |_=>none
def O4(P:Program)(S:ax)(t:TypeId)(x:ag):Option eC:=
 match x with
 | .iM id i off=>match dG S.h id,i.rt with
  |some (.rw _ c y),some (.int k)=>match vB P t ((k9 c S.k 0 (fR c)).drop off),y.fN (.li c)with
   |some v,true=>some ⟨[.f2 (.mR c k) y i],sC S.g (.la c) (.mR c k) y i,v⟩|_,_=>none
  |_,_=>none
 | .iY id off i 1=>match dG S.h id,i.rt with
  |some (.dQ _ l),some (.int _)=>match X3 (l.drop off)with
   |some r=>match xw r (l.drop off)&&(r.one&&scalar P t)with
    |true=>some ⟨[.nth r (l.drop off) i],B0 S.g (l.drop off).length i,.bE r S.k⟩|false=>none
   |none=>none
  |_,_=>none
 |x=>match zw S x with
  |some l=>match vB P t l with
   |some v=>some ⟨[],[],v⟩|none=>none
  |none=>none
def O5(P:Program)(S:ax)(t:TypeId)(x:ag):Option eC:=
 match x with
 | .cs (.slice none 0 0)=>match isSlice P t with
  |true=>some ⟨[],[],.cs (.int .i64 0)⟩|false=>none
 | .cs (.string s)=>match isStr P t with
  |true=>some ⟨[],[],.cs (.int .i64 (ByteArray.size s:Int))⟩|false=>none
 | .cM id n=>match dG S.h id,isSlice P t with
  |some (.dQ _ _),true=>some ⟨[],[],.cs (.int .i64 (n:Int))⟩|_,_=>none
 | .aq id=>match dG S.h id with
  |some (.rw _ c y)=>match isSlice P t with
   |true=>some ⟨[.f1 (.la c) y],[],.bE (.int .i64) S.k⟩|false=>none
  |_=>none
 |x=>match x.rt with
  |some .str=>match isStr P t with
   |true=>some ⟨[.f1 .rh x],[],.bE (.int .i64) S.k⟩|false=>none
  |some (.li c)=>match isSlice P t with
   |true=>some ⟨[.f1 (.la c) x],[],.bE (.int .i64) S.k⟩|false=>none
  |_=>match Dd P t with
   |some n=>some ⟨[],[],.cs (.int .i64 (n:Int))⟩|none=>none
def B7(N:Nat)(S:ax):Option Operand->Option (Option ag)
 |none=>some none|some y=>match(S.bj N y).rt with
  |some (.int _)=>some (some (S.bj N y))|_=>none
def JR(P:Program)(N:Nat)(S:ax)(t:TypeId)(x:ag)(lo hi:Option Operand):Option eC:=
 match B7 N S lo,B7 N S hi with
 |some l,some h=>match x.rt with
  |some .str=>match isStr P t with
   |true=>some ⟨[.sv x l h],(match l,h with|none,none=>[]|_,_=>[.sv x l h]),.bE .str S.k⟩
   |false=>none
  |some (.li c)=>match lY P t with
   |some n=>match zZu n (dE c)with
    |true=>some ⟨[.fC c x l h],(match l,h with|none,none=>[]|_,_=>[.fC c x l h]),.bE (.li c) S.k⟩
    |false=>none
   |none=>none
  |_=>none
 |_,_=>none
def X4(P:Program)(S:ax)(src dst:TypeId)(id:Nat):Option eC:=
 match dG S.h id,P.underlying src with
 |some (.rw _ .u8 y),some (.slice el)=>match P.underlying el,P.underlying dst with
  |some (.int .u8),some .string=>some ⟨[.f1 .cM y],[],.bE .str S.k⟩|_,_=>none
 |_,_=>none
def O6(P:Program)(S:ax)(src dst:TypeId)(x:ag):Option eC:=
 match x with
 | .aq id=>X4 P S src dst id|x=>match x.rt with
  |some (.int k)=>match P.underlying src,P.underlying dst with
   |some _,some (.int bl)=>some ⟨[.f1 (.rR k bl) x],[],.bE (.int bl) S.k⟩|_,_=>none
  |some (.li .u8)=>match P.underlying src with
   |some (.slice el)=>match P.underlying el,P.underlying dst with
    |some (.int .u8),some .string=>some ⟨[.f1 .cM x],[],.bE .str S.k⟩|_,_=>none
   |_=>none
  |_=>none
def O7(S:ax)(op:UnOp)(x:ag):Option eC:=
 match op,x.rt with
 | .not,some .bool=>some ⟨[.f1 .qk x],[],.bE .bool S.k⟩| .neg,some (.int k)=>some ⟨[.f1 (.Fb k) x],[],.bE (.int k) S.k⟩| .xor,some (.int k)=>some ⟨[.f1 (.y6 k) x],[],.bE (.int k) S.k⟩|_,_=>none
def O8(P:Program)(N:Nat)(S:ax)(t:TypeId)(ps:List (Nat × Operand)):Option eC:=
 match places P t,zeroCells P t with
 |some pl,some zs=>match zs.all Value.oneCell'&&(ps.map λp=>(p.1,S.bj N p.2)).all λp=>p.2.cells.all (nv S.h)with
  |true=>match vC pl (zs.map .cs) (ps.map λp=>(p.1,S.bj N p.2))with
   |some ds=>some ⟨[],[],.cH ds⟩|none=>none
  |false=>none
 |_,_=>none
def O9(P:Program)(t:TypeId)(x:ag)(f:Nat):Option eC:=
 match x,x9 P t f with
 | .cH l,some (off,none)=>match l[off]? with
  |some v=>some ⟨[],[],v⟩|none=>none
 | .cH l,some (off,some n)=>match zZt (off+n) l.length with
  |true=>some ⟨[],[],.cH ((l.drop off).take n)⟩|false=>none
 |_,_=>none
def Pa(S:ax)(b:Builtin)(x y:ag):Option eC:=
 match x.rt,y.rt,b with
 |some (.int k),some (.int bl),.min=>match decide (k=bl)with
  |true=>some ⟨[.f2 (.BP k) x y],[],.bE (.int k) S.k⟩|false=>none
 |some (.int k),some (.int bl),.max=>match decide (k=bl)with
  |true=>some ⟨[.f2 (.mx k) x y],[],.bE (.int k) S.k⟩|false=>none
 |_,_,_=>none
def Dl(P:Program)(t:TypeId):Bool:=
 match P.underlying t with
 |some (.pointer e)=>(P.info? e).isSome&&match(P.info? e).map (λi=>decide (i.size=0))with
  |some false=>true|_=>false
 |_=>false
def FA(S:ax)(id:Nat):Bool:=
 match dG S.h id with
 |some (.dQ _ _)=>true|_=>false
def JS(S:ax)(b:Bool)(g:ag):Option eC:=
 match g.rt,b with
 |some .bool,true=>some ⟨[],[],g⟩|some .bool,false=>some ⟨[.f1 .qk g],[],.bE .bool S.k⟩|_,_=>none
def G7:BinOp->Option Bool
 | .eql=>some true| .neq=>some false|_=>none
def Pb(P:Program)(S:ax)(op:BinOp)(cR:TypeId)(x y:ag):Option eC:=
 match Dl P cR,G7 op with
 |true,some b=>match x,y with
  | .cs (.pointer none),.cs (.pointer none)=>some ⟨[],[],.cs (.bool b)⟩| .fi i o,.fi j q=>match(zZu i j&&zZu o q)&&FA S i with
   |true=>some ⟨[],[],.cs (.bool b)⟩|false=>none
  | .gC g (some i) _,.cs (.pointer none)=>match FA S i with
   |true=>JS S (!b) g|false=>none
  | .gC g (some i) o,.fi j q=>match(zZu i j&&zZu o q)&&FA S i with
   |true=>JS S b g|false=>none
  |_,_=>none
 |_,_=>none
def Pc(P:Program)(S:ax)(src dst:TypeId)(x:ag):Option eC:=
 match x with
 | .fi id off=>match dG S.h id,P.underlying src,P.underlying dst with
  |some (.dQ _ l),some (.pointer t),some .unsafePointer=>match(P.info? t).map (λi=>decide (i.size=0)),zZs off l.length with
   |some false,true=>some ⟨[],[],x⟩|_,_=>none
  |some (.dQ bt l),some .unsafePointer,some (.pointer u)=>match liesAt P P.depth bt (l.length/ P.cellsOf bt) off u 1&&(P.info? u).isSome,zZs off l.length with
   |true,true=>some ⟨[],[],x⟩|_,_=>none
  |_,_,_=>none
 |_=>none
def Pd(P:Program)(S:ax)(t:TypeId)(x:ag):Option eC:=
 match x,P.underlying t with
 | .fi id 0,some (.array n el)=>match dG S.h id,zZs 0 n&&(P.info? el).isSome with
  |some (.dQ _ _),true=>some ⟨[],[],.cM id n⟩|_,_=>none
 |_,_=>none
def Pe(P:Program)(S:ax)(src dst:TypeId)(x:ag):Option eC:=
 match x,P.underlying src with
 | .cM id n,some (.slice el)=>match dG S.h id,P.underlying el,P.underlying dst with
  |some (.dQ _ l),some (.int .u8),some .string=>match zZu n l.length&&l.all (ag.fN (.int .u8))with
   |true=>some ⟨[.ri .u8 (l.map λx=>.cH [x]),.f1 .cM (.bE (.li .u8) S.k)],[],.bE .str (S.k+1)⟩
   |false=>none
  |_,_,_=>none
 |_,_=>none
def sE:List ag->Option (List a6)
 |[]=>some []|x::r=>match x.rt,sE r with
  |some t,some l=>some (t::l)|_,_=>none
def yc(P:Program)(t:TypeId):Bool:=
 match P.underlying t with
 |some (.interface _)=>true|none=>true|_=>false
def Pf(P:Program)(t:TypeId)(x:ag):Option eC:=
 match yc P t with
 |true=>none|false=>match x with
  | .cH l=>match sE l with
   |some rs=>some ⟨[],[],.eE t true rs l⟩|none=>none
  |x=>match x.rt with
   |some r=>some ⟨[],[],.eE t false [r] [x]⟩|none=>none
def vD(a:Bool)(l:List ag):Option ag:=
 match a,l with
 |true,l=>some (.cH l)|false,[x]=>some x|false,_=>none
def Pg:Value->ag
 | .agg a=>.cH (a.toList.map .cs)|v=>.cs v
def Ph(P:Program)(t:TypeId)(x:ag)(c:Bool):Option eC:=
 match x,yc P t with
 | .eE u a rs l,false=>match zZu u t,c with
  |true,true=>match vD a l,decide (sE l=some rs)with
   |some v,true=>some ⟨[],[],.tp [v,.cs (.bool true)]⟩|_,_=>none
  |true,false=>match vD a l,decide (sE l=some rs)with
   |some v,true=>some ⟨[],[],v⟩|_,_=>none
  |false,true=>match(P.info? t).bind (·.zero)with
   |some z=>match rP z with
    |true=>some ⟨[],[],.tp [Pg z,.cs (.bool false)]⟩|false=>none
   |none=>none
  |false,false=>none
 |_,_=>none
def uf(P:Program)(N:Nat)(S:ax)(o:Oper):Option eC:=
 match o.op with
 | .move x=>some ⟨[],[],S.bj N x⟩| .assign x=>some ⟨[],[],S.bj N x⟩| .pick c x y=>O0 S (S.bj N c) (S.bj N x) (S.bj N y)| .extract x i=>match S.bj N x with
  | .tp l=>match l[i]? with
   |some v=>some ⟨[],[],v⟩|none=>none
  |_=>none
 | .nilCheck x=>match xu S (S.bj N x)with
  |true=>some ⟨[],[],S.bj N x⟩|false=>none
 | .fieldAddr t x f=>match uK P t f,xu S (S.bj N x)with
  |some k,true=>match B2 k (S.bj N x)with
   |some p=>some ⟨[],[],p⟩|none=>none
  |_,_=>none
 | .load t x=>O4 P S t (S.bj N x)| .field t x f=>O9 P t (S.bj N x) f| .indexAddr t x i=>O3 P S t (S.bj N x) (S.bj N i)| .index t x i=>O1 P S t (S.bj N x) (S.bj N i)| .binOp op cR x y _=>match OX P S op cR (S.bj N x) (S.bj N y)with
  |some r=>some r|none=>Pb P S op cR (S.bj N x) (S.bj N y)
 | .unOp op _ x=>O7 S op (S.bj N x)| .convert src dst x=>match O6 P S src dst (S.bj N x)with
  |some r=>some r|none=>match Pc P S src dst (S.bj N x)with
   |some r=>some r|none=>Pe P S src dst (S.bj N x)
 | .build t ps=>O8 P N S t ps.toList| .makeFunc (.func f) p q=>some ⟨[],[],.fn (.func f) (p.toList.map (S.bj N)) (q.toList.map (S.bj N))⟩| .makeInterface t x=>Pf P t (S.bj N x)| .typeAssert x _ t c=>Ph P t (S.bj N x) c| .lookup t m x c=>OZ P S t (S.bj N m) (S.bj N x) c| .slice t x none none none=>match JR P N S t (S.bj N x) none none with
  |some r=>some r|none=>Pd P S t (S.bj N x)
 | .slice t x lo hi none=>JR P N S t (S.bj N x) lo hi| .call c=>match c.callee,c.args.toList,c.argTypes.toList with
  | .builtin .len,[x],[t]=>O5 P S t (S.bj N x)| .builtin b,[x,y],_=>Pa S b (S.bj N x) (S.bj N y)| .value f,l,_=>O2 P S (S.bj N f) (l.map (S.bj N))|_,_,_=>none
 |_=>none
section
variable {P:Program} {G:aV} {o:Oper} {N B:Nat} {S:ax} {M:List bs}
theorem X5{e:Env}{g:ag}{b:Bool}{x:ag}(h:g.aL e .bool=b):(x.xv g b).den G e=x.den G e:=by
 unfold ag.xv
 split
 ·rename_i h' c v
  split
  ·rename_i af
   simp only[zZr,decide_eq_true_eq]at af;have:=OM af.1;subst this;obtain⟨_,rfl⟩:=af;simp only[ag.den,h]
   cases c<;>rfl
  ·rfl
 ·rfl
theorem JT{e:Env}{r:a6}(h:r.one=true)(x:ag):x.get e r=x.aL e r:=by
 cases r<;>first|rfl|cases h
theorem kj.nil{v:ag}(h: ∀e,(∀c∈S.g,c.ok e)->c8 P G o (S.den G N B e) (v.den G e)):kj P G N B M o S ⟨[],[],v⟩:=λe hf _ _=>h e hf
theorem ziQ{c x y:Operand}{r:eC}(av:o.op= .pick c x y)(h:O0 S (S.bj N c) (S.bj N x) (S.bj N y)=some r):kj P G N B M o S r:=λe hf hx hn=>by
 unfold O0 at h
 split at h
 ·rename_i b af
  cases h
  have hc:aR G (S.den G N B e) c= .ad (.v (.bool b)):=by rw[b3 hf,af];rfl
  refine EM c x y av hc ?_
  cases b<;>simp[b3 hf]
 ·rename_i b af _
  split at h
  ·rename_i ah
   cases h
   have an:=ua af hf;have hc:aR G (S.den G N B e) c= .ad (.v (.bool b)):=by rw[b3 hf,hH ah,an];rfl
   refine EM c x y av hc ?_
   cases b<;>simp[b3 hf]
  ·cases h
 ·split at h
  ·rename_i hc
   split at h
   ·rename_i q _
    split at h
    ·rename_i af
     cases h;simp only[zZr]at af
     have qc:aR G (S.den G N B e) c= .ad (.v (.bool ((S.bj N c).aL e .bool))):=(b3 hf c).trans (hH hc);refine(EM c x y av qc rfl).sub ?_;have aP:Env.at e S.k=_:=hx 0 _ rfl;simp only[ag.den,aP,cf.den,df,b3 hf,JT af.2.2]
     cases iw:(S.bj N c).aL e .bool with
     |true=>
      simp only[cond_true,if_true];rw[<-X5 (G:=G) (x:=S.bj N x) iw];exact zo af.1
     |false=>
      simp only[cond_false,Bool.false_eq_true,if_false];rw[<-X5 (G:=G) (x:=S.bj N y) iw];exact zo af.2.1
    ·cases h
   ·cases h
  ·cases h
theorem Pj{e:Env}{r:a6}: ∀{l:List ag} {j:Nat} {x:ag},xw r l=true->l[j]? =some x->Sub (x.den G e) (.ad (hb r (xm e r l j)))
 |[],_,_,_,h=>by simp at h|[y],j,x,ba,h=>by
  have aj:j=0:=by
   have:=(zZ1.1 h).1;simp at this;exact this
  subst aj;simp only[zXb,zYt]at h;subst h;simp only[xw,zZr]at ba;exact zo ba.1
 |y::z::l,0,x,ba,h=>by
  simp only[zXb,zYt]at h;subst h;simp only[xw,zZr]at ba;exact zo ba.1
 |y::z::l,j+1,x,ba,h=>by
  simp only[List.getElem?_cons_succ]at h;simp only[xw,zZr]at ba;have:=Pj (e:=e) (r:=r) (l:=z::l) (j:=j) (x:=x) (by simp only[xw,zZr];exact ba.2) h
  have af:zZu (j+1) 0=false:=rfl;simp only[xm,af,cond_false,Nat.add_sub_cancel];exact this
theorem JU{e:Env}{l:List ag}{j:Nat}{x:ag}(h:l[j]? =some x):(ag.cc G e l)[j]? =some (x.den G e):=by rw[gh,zYo,h];rfl
theorem ziR{t:TypeId}{x i:Operand}{r:eC}(av:o.op= .index t x i)(h:O1 P S t (S.bj N x) (S.bj N i)=some r):kj P G N B M o S r:=λe hf hx hn=>by
 unfold O1 at h
 split at h
 ·rename_i l au
  have jH:aR G (S.den G N B e) x= .agg (ag.cc G e l):=by rw[b3 hf,au];rfl
  split at h
  ·rename_i len el hu
   split at h
   ·rename_i af b4
    simp only[zZr]at af;have hlen:=zWi af.2
    split at h
    ·rename_i j hi
     split at h
     ·rename_i v az
      cases h
      have aj:=(zZ1.1 az).1;exact Xd j av hu af.1 b4 (by rw[b3 hf,hi];rfl) jH (JU az) (by omega)
     ·cases h
    ·split at h
     ·rename_i e5 hi ah
      split at h
      ·rename_i ba
       cases h;simp only[zZr]at ba
       have lI:0<=cQ ((S.bj N i).dyn e)/\cQ ((S.bj N i).dyn e)<(l.length:Int):=JK hf hn;obtain⟨j,aj⟩: ∃j:Nat,cQ ((S.bj N i).dyn e)=(j:Int):=⟨_,(zW7 lI.1).symm⟩;have dv:j<l.length:=by omega
       have il:aR G (S.den G N B e) i=AF (j:Int):=by
        rw[b3 hf,mr hi,<-pD hi,aj]
       have az:l[j]? =some l[j]:=zZa dv;refine(Xd j av hu af.1 b4 il jH (JU az) (by omega)).sub ?_
       have aP:Env.at e S.k=_:=hx 0 _ rfl;simp only[ag.den,aP,cf.den,df,aj,zW8];exact Pj ba.1 az
      ·cases h
     ·cases h
   ·cases h
  ·cases h
 ·split at h
  ·rename_i k aa ae aJ
   cases h
   have jH:aR G (S.den G N B e) x=_:=(b3 hf x).trans (hH aa);have il:aR G (S.den G N B e) i=_:=(b3 hf i).trans (mr ae);obtain⟨g1,g2⟩:=ziE hf ae hn;exact ub (f:=.vv k) (hx 0 _ rfl) (zij _ k _ av (uP aJ) il jH g1 g2)
  ·cases h
theorem X6{e:Env}{c:bZ}{i:Nat}{x:hY c}(h:Env.at e i=⟨.st c,x⟩):(ag.ip c i 0).den G e= .ad (.ptr (dr c x)):=by
 simp only[ag.den,h,df,List.drop_zero]
theorem X7{c:bZ}{l:List (hY c)}{z:Int}(aP:0<=z)(aa:z<(l.length:Int)):l[z.toNat]? =some (l.getD z.toNat (aZ c)):=by
 have:z.toNat<l.length:=by omega
 rw[List.getD_eq_getElem?_getD,zZa this];rfl
theorem Pk{e:Env}{x:ag}{c:bZ}(h:zA x=some c):x.den G e= .ad (.li c (x.aL e (.li c)))/\x.rt=some (.li c):=by
 unfold zA at h
 split at h
 ·rename_i rf ah
  cases h;exact⟨hH ah,ah⟩
 ·cases h
theorem ziS{s:aS}{x:Operand}{t:TypeId}(av:o.op= .call {callee:=.builtin .len,args:=#[x],argTypes:=#[t]})(aJ:isSlice P t=true){id n:Nat}(hx:aR G s x= .eb id n){bt:TypeId}{cs:List aC}(bq:aF s.heap id=some (.box bt cs)):c8 P G o s (.ad (.v (.int .i64 (n:Int)))):=
 λE a w β ro ah=>by
  have h:=ah.eval x;rw[hx]at h;generalize hc:a.eval x=c at h
  cases h with
  |eb _ _ _ au ar=>
   obtain⟨b,_,rfl⟩:=ar _ _ bq;unfold isSlice at aJ
   split at aJ
   ·rename_i e hu
    refine⟨.int .i64 n,?_,.fu rfl⟩;simp[execOp,av,resolve,invoke,builtin,hc,Builtin.len_,run_underlying hu,goInt]
   ·cases aJ
theorem ziT{s:aS}{x y:Operand}{t:TypeId}(av:o.op= .indexAddr t x y){rp:Nat}(aJ:lY P t=some rp){k:IntKind}{j n:Nat}(aA:aR G s y= .ad (.v (.int k (j:Int))))(aj:j<n){id:Nat}(hx:aR G s x= .eb id n){bt:TypeId}{cs:List aC}(bq:aF s.heap id=some (.box bt cs)):c8 P G o s (.ptr id (j*rp)):=
 λE a w β ro ah=>by
  have h:=ah.eval x;rw[hx]at h;generalize hc:a.eval x=c at h
  cases h with
  |eb _ _ _ au ar=>
   obtain⟨b,af,rfl⟩:=ar _ _ bq;obtain⟨e,hu,b4⟩:=zg aJ;refine⟨.pointer (some ⟨b,j*rp,none⟩),?_,.ptr _ _ _ au λbr cs' _=>⟨b,af,rfl⟩⟩
   by_cases aW:j*rp=0<;>simp[execOp,av,hc,ah.ef aA,Instr.indexAt,asIntOf,run_underlying hu,aj,b4,Addr.add,aW]
theorem TE(cM:ByteArray)(c:Int):Extern.BytealgIndexByte.indexByte #[.string cM,.int .u8 c]=pure (.int .i64 (Az cM c)):=by
 have hi:Extern.BytealgIndexByte.indexByte #[.string cM,.int .u8 c]=(match(zYj cM.size).find? λi=>cM[i]! ==c.toNat.toUInt8 with
  |some i=>pure (goInt i)
  |none=>pure (goInt (-1))):=rfl
 rw[hi];unfold Az
 cases List.find? (λi=>cM[i]! ==c.toNat.toUInt8) (zYj cM.size)<;>rfl
theorem wF{a b:String}(h:(a==b)=true):a=b:=by simpa using h
theorem ziU{f:Operand}{aI:List Operand}{args:Array Operand}{ts:Array TypeId}{r:eC}(av:o.op= .call {callee:=.value f,args:=args,argTypes:=ts})(ba:args.toList=aI)(h:O2 P S (S.bj N f) (aI.map (S.bj N))=some r):kj P G N B M o S r:=λe hf hx hn=>by
 unfold O2 at h
 split at h
 rotate_left
 ·cases h
 rename_i Hb zB;have wE:aR G (S.den G N B e) f= .fn (.func Hb) [] []:=by rw[b3 hf,zB];rfl
 have start: ∀{ev:Array Value->Sem Value} {fn:Func},P.funcs[Hb]? =some fn->fn.body.isNone=true->(fn.name== "runtime.NumGoroutine")=false->Extern.findNext fn=none->Extern.find fn=some ev->∀E a w β ro,dy E G (S.den G N B e) a w β ro->(execOp a.eval o).run P w=((ev (args.map a.eval)).run P w).andThen λv w'=>.ok (.value v) w':=λ{ev fn} aa ae aw aN bx E a w β ro ah=>by
  have hc:=ah.eval f;rw[wE]at hc;generalize he:a.eval f=Hc at hc
  cases hc with
  |fn _ _ _ c d g1 g2 _ _=>
   have iD:c= #[]:=by simpa using g1
   have rU:d= #[]:=by simpa using g2
   subst iD rU;simp only[execOp,av,resolve,he,Deferred.ofValue,Sem.run_bind,Sem.run_pure,Result.andThen_ok,invoke,Array.empty_append,Array.append_empty];exact run_callFunc_extern aa aw ae aN bx _ w
 split at h
 ·rename_i x an au
  cases h;unfold Ay at an
  split at an
  rotate_left
  ·cases an
  rename_i fn qJ
  split at an
  ·rename_i _ rV tn
   simp only[zZr]at rV;obtain⟨af,gw⟩:=rV;have hn:=wF tn;have gw:=wF gw
   obtain⟨y,rfl⟩: ∃y,aI=[y]:=by
    match aI,au with
    |[y],_=>exact⟨y,rfl⟩
   simp only[zXq,zXp,zW6,and_true]at au;have jV:args= #[y]:=by rw[<-Array.toList_inj];exact ba
   intro E a w β ro ah;refine⟨a.eval y,?_,by have:=ah.eval y;rw[b3 hf,au]at this;exact this⟩
   rw[start (ev:=Extern.AbiNoEscape.same) qJ af (by rw[hn];rfl) (by unfold Extern.findNext;simp only[hn,gw]<;>rfl) (by unfold Extern.find;simp only[hn,gw]<;>rfl) E a w β ro ah,jV]
   have hm:(#[y]:Array Operand).map a.eval= #[a.eval y]:=by simp
   rw[hm];rfl
  ·cases an
  ·cases an
 ·rename_i x z an au
  split at h
  ·rename_i g1 g2
   cases h;unfold Ay at an
   split at an
   rotate_left
   ·cases an
   rename_i fn qJ
   split at an
   ·cases an
   ·rename_i rV _ tn
    simp only[zZr]at rV;obtain⟨af,gw⟩:=rV;have hn:=wF tn;have gw:=wF gw
    obtain⟨y,u,rfl⟩: ∃y u,aI=[y,u]:=by
     match aI,au with
     |[y,u],_=>exact⟨y,u,rfl⟩
    simp only[zXq,zXp,zW6,and_true]at au;have jV:args= #[y,u]:=by rw[<-Array.toList_inj];exact ba
    have aA:aR G (S.den G N B e) y= .ad (.v (.string (x.aL e .str))):=by rw[b3 hf,au.1];exact hH g1
    have hu:aR G (S.den G N B e) u= .ad (.v (.int .u8 (z.aL e (.int .u8)))):=by rw[b3 hf,au.2];exact hH g2
    refine ub (f:=.BQ) (hx 0 _ rfl) λE a w β ro ah=>?_;refine⟨.int .i64 (Az (x.aL e .str) (z.aL e (.int .u8))),?_,.fu rfl⟩;rw[start (ev:=Extern.BytealgIndexByte.indexByte) qJ af (by rw[hn];rfl) (by unfold Extern.findNext;simp only[hn,gw]<;>rfl) (by unfold Extern.find;simp only[hn,gw]<;>rfl) E a w β ro ah,jV]
    have hm:(#[y,u]:Array Operand).map a.eval= #[.string (x.aL e .str),.int .u8 (z.aL e (.int .u8))]:=by simp[ah.ef aA,ah.ef hu]
    rw[hm];rw[TE];rfl
   ·cases an
  ·cases h
 ·cases h
theorem ziV{t:TypeId}{x i:Operand}{r:eC}(av:o.op= .indexAddr t x i)(h:O3 P S t (S.bj N x) (S.bj N i)=some r):kj P G N B M o S r:=λe hf hx hn=>by
 unfold O3 at h
 split at h
 ·rename_i k hi
  have il:aR G (S.den G N B e) i=_:=(b3 hf i).trans (mr hi)
  split at h
  ·rename_i n oT
   split at h
   ·rename_i id bq
    split at h
    ·rename_i br c y ai
     split at h
     ·rename_i af
      cases h
      have af:=zWi af;obtain⟨g1,g2⟩:=B1 hf hi hn;obtain⟨j,aj⟩: ∃j:Nat,(S.bj N i).aL e (.int k)=(j:Int):=⟨_,(zW7 g1).symm⟩;rw[aj]at il g2;have g2:(j:Int)<((zZ5 (y.aL e (.li c)):Nat):Int):=g2
      have:=WQ t x i av oT il (p:=.du id j 0) (by
       rw[b3 hf,bq];simp only[ag.den,oo,ax.den,fx,ai,zXh,b1.den]
       rw[if_pos ⟨af.symm,by rw[zXe];omega⟩])
      simp only[ag.den,pD hi,aj,zW8];exact this
     ·cases h
    ·cases h
   ·rename_i id m bq
    split at h
    ·rename_i bt l bl j ai o9
     split at h
     ·rename_i WU
      cases h;exact ziT av oT (k:=bl) (j:=j) (by rw[b3 hf,o9];rfl) (fz WU) (id:=id) (bt:=bt) (cs:=ag.cc G e l) (by rw[b3 hf,bq];rfl) (by simp only[ax.den,fx,ai,zXh,b1.den])
     ·cases h
    ·cases h
   ·split at h
    ·rename_i c hc
     split at h
     ·rename_i af
      cases h
      have af:=zWi af;rw[af]at oT;obtain⟨hd,zC⟩:=Pk (G:=G) (e:=e) hc;obtain⟨g1,g2⟩:=B1 hf hi hn;have:=(XA c _ k _ av oT il ((b3 hf x).trans hd) g1 g2).v;have aP:Env.at e S.k=_:=hx 0 _ rfl;have aa:=X6 (G:=G) (x:=zZ8 ((S.bj N x).aL e (.li c)) (Int.toNat ((S.bj N i).aL e (.int k))) (aZ c)) aP;show c8 P G o _ ((ag.ip c S.k 0).den G e);rw[aa];exact this
     ·cases h
    ·split at h
     ·rename_i c vq _
      cases h
      have lI:=hn _ (zW0.2 rfl)
      have aW:(S.bj N x).aL e (.li c)=[]:=by
       unfold ag.isNil at vq
       split at vq
       ·rename_i aB
        simp only[aB,ag.aL,ag.hh,df]
       ·cases vq
      simp only[hj.ok,gy.BR,aW]at lI;have ae:(S.bj N i).aL e (.int k)<((zZ5 ([]:List (hY c)):Nat):Int):=lI.2;have aw:0<=(S.bj N i).aL e (.int k):=lI.1;exact absurd (zW2 aw ae) (Int.lt_irrefl _)
     ·cases h
  ·split at h
   ·rename_i len n l ba au
    have fH:=Fy (G:=G) (N:=N) (B:=B) (e:=e) au;rw[<-b3 (B:=B) hf]at fH
    split at h
    ·rename_i bl j aj
     split at h
     ·rename_i p dv ar
      cases h
      have dv:=fz dv;refine N0 t x i av ba (k:=bl) (j:=j) (by rw[b3 hf,aj];rfl) dv fH ?_
      have ao:=Fz (G:=G) (e:=e) ar;rw[<-ao,<-b3 (N:=N) (B:=B) hf];revert fH
      cases aR G (S.den G N B e) x<;>intro fH<;>first|(simp[gj]at fH;done)|skip
      all_goals rename_i y
      ·cases y<;>first|(simp[gj]at fH;done)|rfl
      ·rfl
      ·rfl
     ·cases h
    ·rename_i id off bq _
     cases h
     have lI:0<=cQ ((S.bj N i).dyn e)/\cQ ((S.bj N i).dyn e)<(len:Int):=JK hf hn;obtain⟨j,aj⟩: ∃j:Nat,cQ ((S.bj N i).dyn e)=(j:Int):=⟨_,(zW7 lI.1).symm⟩;rw[<-pD hi,aj]at il;refine N0 t x i av ba il (by omega) fH ?_
     rw[b3 hf,bq];simp only[ag.den,ku,aj,zW8]
    ·cases h
   ·cases h
 ·cases h
theorem ziW{t:TypeId}{x:Operand}{r:eC}(av:o.op= .load t x)(h:O4 P S t (S.bj N x)=some r):kj P G N B M o S r:=λe hf hx hn=>by
 unfold O4 at h
 split at h
 ·rename_i id i off ar
  split at h
  ·rename_i br c y k ai hi
   split at h
   ·rename_i v az aA
    cases h;obtain⟨g1,g2⟩:=B1 hf hi hn
    have aP:Env.at e S.k=⟨.st c,zZ8 (y.aL e (.li c)) (i.aL e (.int k)).toNat (aZ c)⟩:=hx 0 _ rfl;refine XX av ?_ az;rw[b3 hf,ar];simp only[ag.den,gj,ax.den,fx,ai,zXh,b1.den,pD hi];rw[zYo,X7 g1 g2];simp only[zXh,zYt];rw[OV,xk,aP,df,zWc]
   ·cases h
  ·cases h
 ·rename_i id off i ar
  split at h
  ·rename_i br l k ai hi
   split at h
   ·rename_i q aB
    split at h
    ·rename_i ba
     cases h;simp only[zZr]at ba
     have lI:0<=cQ (i.dyn e)/\cQ (i.dyn e)<((l.drop off).length:Int):=JK hf hn;obtain⟨j,aj⟩: ∃j:Nat,cQ (i.dyn e)=(j:Int):=⟨_,(zW7 lI.1).symm⟩;have dv:j<(l.drop off).length:=by omega
     have az:(l.drop off)[j]? =some (l.drop off)[j]:=zZa dv;have hd:(l.drop off).drop j=(l.drop off)[j]::(l.drop off).drop (j+1):=List.drop_eq_getElem_cons dv
     have:=NI t x av ba.2.2 (y:=((l.drop off)[j]).den G e) (cs:=ag.cc G e ((l.drop off).drop (j+1))) (s:=S.den G N B e) (G:=G) (by
      rw[b3 hf,ar];simp only[ag.den,gj,ax.den,fx,ai,zXh,b1.den,aj,zW8,Nat.mul_one,zYt];rw[<-OV,<-zW5,hd]
      rfl)
     refine this.sub ?_;have aP:Env.at e S.k=_:=hx 0 _ rfl;simp only[ag.den,aP,cf.den,df,aj,zW8];exact Pj ba.1 az
    ·cases h
   ·cases h
  ·cases h
 ·split at h
  ·rename_i l au
   split at h
   ·rename_i v az
    cases h;refine XX av ?_ az
    rw[b3 hf];exact Fy au
   ·cases h
  ·cases h
theorem ziX{t:TypeId}{x:Operand}{r:eC}(av:o.op= .call {callee:=.builtin .len,args:=#[x],argTypes:=#[t]})(h:O5 P S t (S.bj N x)=some r):kj P G N B M o S r:=λe hf hx hn=>by
 unfold O5 at h
 split at h
 ·rename_i ar
  split at h
  ·rename_i aJ
   cases h;exact NY x t av aJ (m:=0) (by rw[b3 hf,ar];rfl)
  ·cases h
 ·rename_i b ar
  split at h
  ·rename_i aJ
   cases h;exact NZ x t av (uP aJ) (by rw[b3 hf,ar];rfl)
  ·cases h
 ·rename_i id n ar
  split at h
  ·rename_i bt l ai aJ
   cases h;exact ziS av aJ (id:=id) (bt:=bt) (cs:=ag.cc G e l) (by rw[b3 hf,ar];rfl) (by simp only[ax.den,fx,ai,zXh,b1.den])
  ·cases h
 ·rename_i id ar
  split at h
  ·rename_i br c y ai
   split at h
   ·rename_i aJ
    cases h;refine uc (f:=.la c) (hx 0 _ rfl) (NY x t av aJ (m:=zZ5 (y.aL e (.li c))) ?_)
    rw[b3 hf,ar];simp only[ag.den,m4,ax.den,fx,ai,zXh,b1.den,zXe]
   ·cases h
  ·cases h
 ·split at h
  ·rename_i ah
   split at h
   ·rename_i aJ
    cases h;exact uc (f:=.rh) (hx 0 _ rfl) (NZ x t av (uP aJ) ((b3 hf x).trans (hH ah)))
   ·cases h
  ·rename_i c ah
   split at h
   ·rename_i aJ
    cases h;exact uc (f:=.la c) (hx 0 _ rfl) (zik c _ av aJ ((b3 hf x).trans (hH ah)))
   ·cases h
  ·split at h
   ·rename_i n Pl
    cases h;exact WN x t av Pl
   ·cases h
theorem B8{e:Env}(hf: ∀c∈S.g,c.ok e){lo:Option Operand}{l:Option ag}(h:B7 N S lo=some l):Fs G (S.den G N B e) lo (rj e l):=by
 unfold B7 at h
 split at h
 ·cases h;trivial
 ·split at h
  ·rename_i y k ah
   cases h;exact⟨k,by rw[b3 hf,mr ah,pD ah]⟩
  ·cases h
theorem X8{t:TypeId}{x:Operand}{lo hi:Option Operand}{r:eC}(av:o.op= .slice t x lo hi none)(h:JR P N S t (S.bj N x) lo hi=some r):kj P G N B M o S r:=λe hf hx hn=>by
 unfold JR at h
 split at h
 ·rename_i l h' au a8
  split at h
  ·rename_i ah
   split at h
   ·rename_i aJ
    cases h
    have aP:Env.at e S.k=_:=hx 0 _ rfl;simp only[ag.den,aP,cf.den,df];refine ziz _ av (uP aJ) ((b3 hf x).trans (hH ah)) (B8 hf au) (B8 hf a8) ?_
    cases l<;>cases h'<;>first|trivial|exact hn _ (zW0.2 rfl)
   ·cases h
  ·rename_i c ah
   split at h
   ·rename_i n oT
    split at h
    ·rename_i af
     cases h;rw[zWi af]at oT
     have aP:Env.at e S.k=_:=hx 0 _ rfl;simp only[ag.den,aP,cf.den,df];refine(XP c _ av oT ((b3 hf x).trans (hH ah)) (B8 hf au) (B8 hf a8) ?_).v
     cases l<;>cases h'<;>first|trivial|exact hn _ (zW0.2 rfl)
    ·cases h
   ·cases h
  ·cases h
 ·cases h
theorem ziY{src dst:TypeId}{x:Operand}{r:eC}(av:o.op= .convert src dst x)(h:O6 P S src dst (S.bj N x)=some r):kj P G N B M o S r:=λe hf hx hn=>by
 unfold O6 at h
 split at h
 ·rename_i id bq
  unfold X4 at h
  split at h
  ·rename_i br y el ai ao
   split at h
   ·rename_i hu hd
    cases h;refine uc (f:=.cM) (hx 0 _ rfl) (Mf src dst el x av ao hu hd (l:=y.aL e (.li .u8)) ?_)
    rw[b3 hf,bq];simp only[ag.den,iQ,ax.den,fx,ai,zXh,b1.den];rfl
   ·cases h
  ·cases h
 rename_i BJ
 split at h
 ·rename_i k ah
  split at h
  ·rename_i ao hd
   cases h;exact uc (f:=.rR k _) (hx 0 _ rfl) (W2 src dst x av (by rw[ao];rfl) hd ((b3 hf x).trans (mr ah)))
  ·cases h
 ·rename_i ah
  split at h
  ·rename_i el ao
   split at h
   ·rename_i hu hd
    cases h;refine uc (f:=.cM) (hx 0 _ rfl) (Mf src dst el x av ao hu hd (l:=(S.bj N x).aL e (.li .u8)) ?_)
    rw[b3 hf,hH ah];rfl
   ·cases h
  ·cases h
 ·cases h
theorem ziZ{op:UnOp}{t:TypeId}{x:Operand}{r:eC}(av:o.op= .unOp op t x)(h:O7 S op (S.bj N x)=some r):kj P G N B M o S r:=λe hf hx hn=>by
 unfold O7 at h
 split at h
 ·rename_i ah
  cases h;exact uc (f:=.qk) (hx 0 _ rfl) (WD t x av ((b3 hf x).trans (hH ah)))
 ·rename_i k ah
  cases h;exact uc (f:=.Fb k) (hx 0 _ rfl) (WE t x av ((b3 hf x).trans (mr ah)))
 ·rename_i k ah
  cases h
  have jH:aR G (S.den G N B e) x=_:=(b3 hf x).trans (mr ah);exact uc (f:=.y6 k) (hx 0 _ rfl) λ_ bo w β ro h=>⟨_,by simp[execOp,av,h.ef jH,Op.unary,Op.intBits,cx.den,aH.jK],.fu rfl⟩
 ·cases h
theorem zi0{t:TypeId}{ps:Array (Nat × Operand)}{r:eC}(av:o.op= .build t ps)(h:O8 P N S t ps.toList=some r):kj P G N B M o S r:=λe hf hx hn=>by
 unfold O8 at h
 split at h
 ·rename_i pl zs vo aW
  split at h
  ·rename_i af
   simp only[zZr]at af
   split at h
   ·rename_i ds hd
    cases h
    have aa:=JM (G:=G) (e:=e) af.2 hd;have ae:ag.cc G e (zs.map .cs)=zs.map λz=>.ad (.v z):=by rw[gh,zWq];rfl
    rw[ae]at aa
    have aw:(ps.toList.map λp=>(p.1,aR G (S.den G N B e) p.2))=(ps.toList.map λp=>(p.1,S.bj N p.2)).map λp=>(p.1,p.2.den G e):=by
     rw[zWq];exact zW9 λp _=>by simp[b3 hf]
    refine WX t ps av vo aW af.1 aw ?_ aa;rw[List.all_map];refine zZ2.2 λp ar=>?_;have:=zZ2.1 af.2 p ar;simp only[Function.comp];rw[zx this];exact B3 this
   ·cases h
  ·cases h
 ·cases h
theorem zi1{t:TypeId}{x:Operand}{f:Nat}{r:eC}(av:o.op= .field t x f)(h:O9 P t (S.bj N x) f=some r):kj P G N B M o S r:=λe hf hx hn=>by
 unfold O9 at h
 split at h
 ·rename_i l off au ar
  split at h
  ·rename_i v az
   cases h;exact WS t x f av ar (by rw[b3 hf,au];rfl) (JU az)
  ·cases h
 ·rename_i l off n au ar
  split at h
  ·rename_i af
   cases h
   have:=WT t x f av ar (s:=S.den G N B e) (G:=G) (cs:=ag.cc G e l) (by rw[b3 hf,au];rfl) (by rw[qq];exact zZq af)
   simp only[ag.den];rw[gh,zWe,zWc,<-gh];exact this
  ·cases h
 ·cases h
theorem zi2{b:Builtin}{x y:Operand}{ts:Array TypeId}{r:eC}(av:o.op= .call {callee:=.builtin b,args:=#[x,y],argTypes:=ts})(h:Pa S b (S.bj N x) (S.bj N y)=some r):kj P G N B M o S r:=λe hf hx hn=>by
 unfold Pa at h
 split at h
 ·rename_i k bl aa ae
  split at h
  ·rename_i an
   cases h
   have an:=of_decide_eq_true an;subst an;exact ub (f:=.BP k) (hx 0 _ rfl) (W3 x y ts av ((b3 hf x).trans (mr aa)) ((b3 hf y).trans (mr ae)))
  ·cases h
 ·rename_i k bl aa ae
  split at h
  ·rename_i an
   cases h
   have an:=of_decide_eq_true an;subst an;exact ub (f:=.mx k) (hx 0 _ rfl) (W4 x y ts av ((b3 hf x).trans (mr aa)) ((b3 hf y).trans (mr ae)))
  ·cases h
 ·cases h
theorem zi3{t:TypeId}(h:Dl P t=true): ∃iN i,P.underlying t=some (.pointer iN)/\P.info? iN=some i/\i.size≠0:=by
 unfold Dl at h
 split at h
 ·rename_i e hu
  cases hi:P.info? e with
  |none=>rw[hi]at h;cases h
  |some i=>
   rw[hi]at h;simp only[Option.isSome_some,Bool.true_and,zXh]at h;refine⟨e,i,hu,hi,λaW=>?_⟩;rw[aW]at h;cases h
 ·cases h
theorem Pm{id:Nat}{e:Env}(h:FA S id=true): ∃t cs,aF (S.den G N B e).heap id=some (.box t cs):=by
 unfold FA at h
 split at h
 ·rename_i t l ai
  exact⟨t,ag.cc G e l,by simp only[ax.den,fx,ai,zXh,b1.den]⟩
 ·cases h
theorem X9{s:aS}{b:Bool}{g:ag}{r:eC}{e:Env}(h:JS S b g=some r)(hx: ∀(j:Nat) (x:cf),r.xs[j]? =some x->Env.at e (S.k+j)=x.den M e)(ao:c8 P G o s (.ad (.v (.bool (bif b then g.aL e .bool else !(g.aL e .bool)))))):c8 P G o s (r.v.den G e):=by
 unfold JS at h
 split at h
 ·rename_i ah
  cases h
  have:=hH (G:=G) (e:=e) ah;show c8 P G o s (g.den G e);rw[this];exact ao
 ·rename_i ah
  cases h;exact uc (f:=.qk) (hx 0 _ rfl) ao
 ·cases h
theorem zi4{tp iN:TypeId}{j:TypeInfo}(w:World)(a:Addr)(ar:P.underlying tp=some (.pointer iN))(zi5:P.info? iN=some j):(Op.equal tp (.pointer (some a)) (.pointer (some a))).run P w= .ok true w:=by
 have h: ∀d:Nat,(Op.equalIn (d+1) tp (.pointer (some a)) (.pointer (some a))).run P w= .ok true w:=λd=>by
  simp[Op.equalIn,run_underlying ar,sizeOf,typeInfo,zi5,run_sameAddr_same]
 exact h 9999
theorem eq_nil{tp iN:TypeId}(w:World)(q:Option Addr)(ar:P.underlying tp=some (.pointer iN)):(Op.equal tp (.pointer none) (.pointer q)).run P w= .ok q.isNone w:=by
 have h: ∀d:Nat,(Op.equalIn (d+1) tp (.pointer none) (.pointer q)).run P w= .ok q.isNone w:=λd=>by
  cases q<;>simp[Op.equalIn,run_underlying ar]
 exact h 9999
theorem yg{s:aS}{op:BinOp}{cR ty:TypeId}{x y:Operand}{b c:Bool}(av:o.op= .binOp op cR x y ty)(aJ:Dl P cR=true)(af:G7 op=some b)
 (h: ∀E a w β ro,dy E G s a w β ro->∃p q,a.eval x= .pointer p/\a.eval y= .pointer q/\((q=none/\c=p.isNone)\/(p=none/\c=q.isNone)\/(∃dj,p=some dj/\q=some dj/\c=true))):c8 P G o s (.ad (.v (.bool (bif b then c else !c)))):=
 λE a w β ro ah=>by
  obtain⟨iN,i,hu,hi,b4⟩:=zi3 aJ;obtain⟨p,q,aa,ae,aw⟩:=h E a w β ro ah;refine⟨.bool (bif b then c else !c),?_,.fu rfl⟩
  have zi6:P.underlying cR=some (.pointer (P.pointee cR)):=by rw[hu];simp[Program.pointee,hu]
  have heq:(Op.equal cR (.pointer p) (.pointer q)).run P w= .ok c w:=by
   rcases aw with⟨rfl,rfl⟩|⟨rfl,rfl⟩|⟨dj,rfl,rfl,rfl⟩
   ·exact run_equal_pointer_nil w cR p zi6
   ·exact eq_nil w q hu
   ·exact zi4 w dj hu hi
  unfold G7 at af
  split at af
  ·cases af
   have:(binOp .eql cR (.pointer p) (.pointer q)).run P w= .ok (.bool c) w:=by
    simp only[binOp];simp[heq]
   simp[execOp,av,aa,ae,eqGuard_at_pointer,this]
  ·cases af
   have:(binOp .neq cR (.pointer p) (.pointer q)).run P w= .ok (.bool (!c)) w:=by
    simp only[binOp];simp[heq]
   simp[execOp,av,aa,ae,eqGuard_at_pointer,this]
  ·cases af
theorem wD{E:Entry}{s:aS}{a:Act}{w:World}{β:Nat->Value}{ro:Nat->Prop}{x:Operand}(ah:dy E G s a w β ro)(hx:aR G s x= .ad (.v (.pointer none))):a.eval x= .pointer none:=ah.ef hx
theorem pU{E:Entry}{s:aS}{a:Act}{w:World}{β:Nat->Value}{ro:Nat->Prop}{x:Operand}{id off:Nat}{t:TypeId}{cs:List aC}(ah:dy E G s a w β ro)(hx:aR G s x= .ptr id off)(ai:aF s.heap id=some (.box t cs)):
 ∃b,β id= .pointer (some ⟨b,0,none⟩)/\a.eval x= .pointer (some ⟨b,off,none⟩):=by
 have h:=ah.eval x;rw[hx]at h;generalize hc:a.eval x=c at h
 cases h with
 |ptr _ _ _ au ar=>exact ar _ _ ai
theorem zi7{op:BinOp}{cR ty:TypeId}{x y:Operand}{r:eC}(av:o.op= .binOp op cR x y ty)(h:Pb P S op cR (S.bj N x) (S.bj N y)=some r):kj P G N B M o S r:=λe hf hx hn=>by
 unfold Pb at h
 split at h
 rotate_left
 ·cases h
 rename_i b aJ af
 split at h
 ·rename_i aa ae
  cases h
  have:=yg (G:=G) (s:=S.den G N B e) (c:=true) av aJ af λE a w β ro ah=>⟨none,none,wD ah (by rw[b3 hf,aa];rfl),wD ah (by rw[b3 hf,ae];rfl),.inl ⟨rfl,rfl⟩⟩
  cases b<;>exact this
 ·rename_i i q j jA aa ae
  split at h
  ·rename_i hc
   cases h;simp only[zZr]at hc;obtain⟨⟨aO,bz⟩,bd⟩:=hc
   have aO:=zWi aO;have bz:=zWi bz;subst aO bz;obtain⟨bt,cs,ai⟩:=Pm (G:=G) (N:=N) (B:=B) (e:=e) bd
   have:=yg (G:=G) (s:=S.den G N B e) (c:=true) av aJ af λE a w β ro ah=>by
    obtain⟨e6,g1,g2⟩:=pU ah (by rw[b3 hf,aa];rfl) ai
    obtain⟨gl,g3,g4⟩:=pU ah (by rw[b3 hf,ae];rfl) ai
    rw[g1]at g3
    cases g3
    exact⟨_,_,g2,g4,.inr (.inr ⟨_,rfl,rfl,rfl⟩)⟩
   cases b<;>exact this
  ·cases h
 ·rename_i g i off aa ae
  split at h
  ·rename_i hc
   obtain⟨bt,cs,ai⟩:=Pm (G:=G) (N:=N) (B:=B) (e:=e) hc;refine X9 h hx ?_
   have:=yg (G:=G) (s:=S.den G N B e) (c:=!(g.aL e .bool)) av aJ af λE a w β ro ah=>by
    have Ya:a.eval y= .pointer none:=wD ah (by rw[b3 hf,ae];rfl)
    have hd:aR G (S.den G N B e) x=(ag.gC g (some i) off).den G e:=by rw[b3 hf,aa]
    simp only[ag.den]at hd
    cases xx:g.aL e .bool with
    |true=>
     rw[xx]at hd;obtain⟨e6,g1,g2⟩:=pU ah hd ai;exact⟨_,_,g2,Ya,.inl ⟨rfl,rfl⟩⟩
    |false=>
     rw[xx]at hd;exact⟨_,_,wD ah hd,Ya,.inl ⟨rfl,rfl⟩⟩
   cases b<;>simpa using this
  ·cases h
 ·rename_i g i q j jA aa ae
  split at h
  ·rename_i hc
   simp only[zZr]at hc;obtain⟨⟨aO,bz⟩,bd⟩:=hc;have aO:=zWi aO;have bz:=zWi bz;subst aO bz;obtain⟨bt,cs,ai⟩:=Pm (G:=G) (N:=N) (B:=B) (e:=e) bd;refine X9 h hx ?_;refine yg (G:=G) (s:=S.den G N B e) (c:=g.aL e .bool) av aJ af λE a w β ro ah=>?_;obtain⟨gl,g3,g4⟩:=pU ah (by rw[b3 hf,ae];rfl) ai
   have hd:aR G (S.den G N B e) x=(ag.gC g (some i) q).den G e:=by rw[b3 hf,aa]
   simp only[ag.den]at hd
   cases xx:g.aL e .bool with
   |true=>
    rw[xx]at hd;obtain⟨e6,g1,g2⟩:=pU ah hd ai;rw[g1]at g3
    cases g3
    exact⟨_,_,g2,g4,.inr (.inr ⟨_,rfl,rfl,rfl⟩)⟩
   |false=>
    rw[xx]at hd;exact⟨_,_,wD ah hd,g4,.inr (.inl ⟨rfl,rfl⟩)⟩
  ·cases h
 ·cases h
theorem G9{E:Entry}{s:aS}{a:Act}{w:World}{β:Nat->Value}{ro:Nat->Prop}{id off b:Nat}{t:TypeId}{cs:List aC}(ah:dy E G s a w β ro)(ai:aF s.heap id=some (.box t cs))(af:β id= .pointer (some ⟨b,0,none⟩))(au:off<cs.length):
 ∃arr v,w.heap[b]? =some (.cells arr t (0,0))/\arr.size=cs.length/\w.cell? ⟨b,off,none⟩=some v:=by
 have eg:=ah.heap.dB id _ ai
 cases eg with
 |box _ _ hL arr aa ae aw aN=>
  rw[af]at aa;simp only[Value.pointer.injEq,zYt,Addr.mk.injEq,and_true]at aa;subst aa;refine⟨arr,arr[off]'(by omega),ae,aw,?_⟩
  have bR:off<arr.size:=by omega
  simp[World.cell?,ae,bR]
theorem zi8{src dst:TypeId}{x:Operand}{r:eC}(av:o.op= .convert src dst x)(h:Pc P S src dst (S.bj N x)=some r):kj P G N B M o S r:=λe hf hx hn=>by
 unfold Pc at h
 split at h
 rotate_left
 ·cases h
 rename_i id off az;have hd:aR G (S.den G N B e) x= .ptr id off:=by rw[b3 hf,az];rfl
 split at h
 ·rename_i bt l t ai ao tU
  split at h
  ·rename_i aW bR
   cases h;rw[az]
   have a8:aF (S.den G N B e).heap id=some (.box bt (ag.cc G e l)):=by simp only[ax.den,fx,ai,zXh,b1.den]
   intro E a w β ro ah;obtain⟨b,af,he⟩:=pU ah hd a8;obtain⟨arr,v,_,_,hc⟩:=G9 (off:=off) ah a8 af (by rw[qq];exact fz bR)
   refine⟨.pointer (some ⟨b,off,none⟩),?_,by have:=ah.eval x;rw[hd,he]at this;exact this⟩
   simp only[execOp,av,he,Sem.run_bind,run_convert_to_unsafe ao tU aW hc,Result.andThen_ok,Sem.run_pure]
  ·cases h
 ·rename_i bt l u ai ao tU
  split at h
  ·rename_i uQ bR
   cases h;rw[az]
   have a8:aF (S.den G N B e).heap id=some (.box bt (ag.cc G e l)):=by simp only[ax.den,fx,ai,zXh,b1.den]
   intro E a w β ro ah;obtain⟨b,af,he⟩:=pU ah hd a8;obtain⟨arr,v,fW,b4,hc⟩:=G9 (off:=off) ah a8 af (by rw[qq];exact fz bR)
   refine⟨.pointer (some ⟨b,off,none⟩),?_,by have:=ah.eval x;rw[hd,he]at this;exact this⟩
   rw[qq]at b4;have Dp:w.shape? b=some (bt,l.length):=by simp[World.shape?,fW,b4]
   have Mg:(convert src dst (.pointer (some ⟨b,off,none⟩))).run P w= .ok (.pointer (some ⟨b,off,none⟩)) w:=by
    rw[zZr]at uQ;obtain⟨i,hi⟩:=zVz.1 uQ.2;have uQ:=uQ.1
    by_cases aW:i.size=0
    ·simp[convert,Conv.unsafePointer,Conv.seenAt,viewAt,variablesAt,sizeOf,typeInfo,run_underlying ao,run_underlying tU,hi,aW,Dp,uQ,Result.andThen]
    ·simp[convert,Conv.unsafePointer,Conv.seenAt,viewAt,variablesAt,sizeOf,typeInfo,run_underlying ao,run_underlying tU,hi,aW,Dp,uQ,Result.andThen]
   simp only[execOp,av,he,Sem.run_bind,Mg,Result.andThen_ok,Sem.run_pure]
  ·cases h
 ·cases h
theorem zi9{t:TypeId}{x:Operand}{r:eC}(av:o.op= .slice t x none none none)(h:Pd P S t (S.bj N x)=some r):kj P G N B M o S r:=λe hf hx hn=>by
 unfold Pd at h
 split at h
 ·rename_i id n el az aJ
  split at h
  ·rename_i bt l ai hc
   cases h;simp only[zZr]at hc
   have lI:=fz hc.1;obtain⟨zoW,qb⟩:=zVz.1 hc.2;have hd:aR G (S.den G N B e) x= .ptr id 0:=by rw[b3 hf,az];rfl
   have a8:aF (S.den G N B e).heap id=some (.box bt (ag.cc G e l)):=by simp only[ax.den,fx,ai,zXh,b1.den]
   intro E a w β ro ah;obtain⟨b,af,he⟩:=pU ah hd a8;have dh:=ah.eval x;rw[hd,he]at dh;have bR:id<(S.den G N B e).next:=by cases dh with|ptr _ _ _ au _=>exact au
   refine⟨.slice (some ⟨b,0,none⟩) n n,?_,.eb _ _ _ bR λ_ _ _=>⟨b,af,rfl⟩⟩;have b6: ¬n=0:=by omega
   simp[execOp,av,he,Instr.sliceAt,run_underlying aJ,Instr.sureAddr,Instr.sliceBounds,sizeOf,typeInfo,qb,b6,addLit,Result.andThen]
  ·cases h
 ·cases h
theorem Yb{e:Env}: ∀{l:List ag},pA e .u8 (l.map λx=>.cH [x])=l.map λx=>x.aL e (.int .u8)
 |[]=>rfl|x::r=>by
  simp only[zXq,pA,Yb (l:=r)];rfl
theorem Yc{e:Env}: ∀{l:List ag},l.all (ag.fN (.int .u8))=true->ag.cc G e l=(l.map λx=>x.aL e (.int .u8)).map λn=>aC.ad (.v (.int .u8 n))
 |[],_=>rfl|x::r,h=>by
  simp only[zW3,zZr]at h;simp only[ag.cc,zXq,Jw h.1,Yc h.2]
theorem zja{src dst:TypeId}{x:Operand}{r:eC}(av:o.op= .convert src dst x)(h:Pe P S src dst (S.bj N x)=some r):kj P G N B M o S r:=λe hf hx hn=>by
 unfold Pe at h
 split at h
 ·rename_i id n el az ao
  split at h
  ·rename_i bt l ai hu tU
   split at h
   ·rename_i hc
    cases h;simp only[zZr]at hc
    have lI:=zWi hc.1;have aP:=hx 0 _ rfl;have aa:=hx 1 _ rfl;simp only[zYh,cf.den,cx.den,cx.a,cx.c]at aP aa
    have au:(ag.bE (.li .u8) S.k).aL e (.li .u8)=l.map λx=>x.aL e (.int .u8):=by
     simp only[ag.aL,ag.hh,ag.dyn,aP,df];exact Yb
    rw[au]at aa;simp only[ag.den,aa,df,hb,mP];generalize hm:(l.map λx=>x.aL e (.int .u8))=m;have zjb:m.length=n:=by rw[<-hm,zXe,lI]
    have hd:aR G (S.den G N B e) x= .eb id n:=by rw[b3 hf,az];rfl
    have a8:aF (S.den G N B e).heap id=some (.box bt (m.map λn=>.ad (.v (.int .u8 n)))):=by
     simp only[ax.den,fx,ai,zXh,b1.den];rw[Yc hc.2,hm]
    intro E a w β ro ah;have dh:=ah.eval x;rw[hd]at dh;generalize pe:a.eval x=c at dh
    cases dh with
    |eb _ _ _ au ar=>
     obtain⟨b,af,rfl⟩:=ar _ _ a8
     have fW: ∀(j:Nat) (v:Value),(m.map (Value.int .u8))[j]? =some v->w.cell? ((⟨b,0,none⟩:Addr).add j)=some v:=λj v aj=>by
      have eg:=ah.heap.dB id _ a8
      cases eg with
      |box _ _ hL arr g1 g2 g3 g4=>
       rw[af]at g1;simp only[Value.pointer.injEq,zYt,Addr.mk.injEq,and_true]at g1;subst g1;rw[zYo]at aj;obtain⟨z,aW,rfl⟩:=zZ3.1 aj;have bR:j<arr.size:=by rw[g3,zXe];exact(zZ1.1 aW).1
       have JV:=g4 j (.ad (.v (.int .u8 z))) (by rw[zYo,aW];rfl)
       rw[Array.getD_eq_getD_getElem?,Array.getElem?_eq_getElem bR,Option.getD_some]at JV;have zjc:arr[j]= .int .u8 z:=bN.val JV;rw[addLit,Nat.zero_add];simp[World.cell?,g2,bR,zjc]
     have Jf:=run_loadCells_list (P:=P) (w:=w) ⟨b,0,none⟩ (m.map (Value.int .u8)) fW;refine⟨.string (bytesOf m),?_,.fu rfl⟩
     have cE:(convert src dst (.slice (some ⟨b,0,none⟩) n n)).run P w= .ok (.string (bytesOf m)) w:=by
      rw[run_convert_bytes_string w src dst el (some ⟨b,0,none⟩) n n ao hu tU,<-zjb];exact run_bytesToString w ⟨b,0,none⟩ m.length m.length m (by simpa using Jf)
     simp[execOp,av,pe,cE]
   ·cases h
  ·cases h
 ·cases h
theorem JW{G:aV}{e:Env}: ∀{l:List ag} {rs:List a6},sE l=some rs->ag.cc G e l=(hG e rs l).map λd=>.ad d.ad
 |[],_,h=>by cases h;rfl
 |x::r,_,h=>by
  simp only[sE]at h
  split at h
  ·rename_i t l aa ae
   cases h;simp only[ag.cc,hH aa,JW ae,hG,zXq];rfl
  ·cases h
theorem Dq{t:TypeId}(h:yc P t=false): ∃d,P.underlying t=some d/\∀m,d≠ .interface m:=by
 unfold yc at h
 split at h
 ·cases h
 ·cases h
 ·rename_i d hd hn
  cases hu:P.underlying t with
  |none=>exact absurd hu hn|some d=>exact⟨d,rfl,λm e=>hd m (by rw[hu,e])⟩
theorem Ty{w:World}{ro:Nat->Prop}{σ:bK}{β:Nat->Value}{M:Nat}{t:TypeId}{ys:List a7}{c:Value}(h:bN w ro σ β M (.agg (ys.map .ad)) c):dq w ro (.eE t true ys) (.iface t c):=by
 generalize aW:ys.map aC.ad=zs at h
 cases h with
 |agg _ arr aa ae=>
  subst aW;refine .eE t true ys _ (λi=>arr.getD i undef) ⟨arr,rfl,by rw[aa,zXe],λi _=>rfl⟩ λi x hx=>?_
  have:=ae i (.ad x) (by rw[zYo,hx];rfl)
  cases this with
  |ad _ _ q=>exact q
theorem Ha{w:World}{ro:Nat->Prop}{σ:bK}{β:Nat->Value}{M:Nat}{t:TypeId}{ys:List a7}{c:Value}(h:dq w ro (.eE t true ys) (.iface t c)):bN w ro σ β M (.agg (ys.map .ad)) c:=by
 cases h with
 |eE _ _ _ _ p aa ae=>
  obtain⟨arr,rfl,aw,aN⟩:=aa;refine .agg _ arr (by rw[aw,zXe]) λj x aj=>?_
  rw[zYo]at aj;obtain⟨y,aA,rfl⟩:=zZ3.1 aj;have au:=(zZ1.1 aA).1;rw[aN j au];exact .ad _ _ (ae j y aA)
theorem zjd{t:TypeId}{x:Operand}{r:eC}(av:o.op= .makeInterface t x)(h:Pf P t (S.bj N x)=some r):kj P G N B M o S r:=λe hf hx hn=>by
 unfold Pf at h
 split at h
 ·cases h
 rename_i hi;obtain⟨d,hd,e3⟩:=Dq hi
 have cE: ∀(v:Value) (w:World),(Instr.makeInterface t v).run P w= .ok (.iface t v) w:=λv w=>by
  unfold Instr.makeInterface
  cases d<;>first|exact absurd rfl (e3 _)|simp[run_underlying hd,Result.andThen]
 split at h
 ·rename_i l az
  split at h
  ·rename_i rs hZ
   cases h;intro E a w β ro ah
   have dh:=ah.eval x;rw[b3 hf,az]at dh;simp only[ag.den,JW hZ]at dh;rw[show((hG e rs l).map λd=>aC.ad d.ad)=((hG e rs l).map aK.ad).map .ad by rw[zWq];rfl]at dh
   exact⟨_,by simp[execOp,av,cE],.ad _ _ (Ty dh)⟩
  ·cases h
 ·rename_i JX
  split at h
  ·rename_i rt zC
   cases h;intro E a w β ro ah
   have dh:=ah.eval x;rw[b3 hf,hH zC]at dh;refine⟨_,by simp[execOp,av,cE];rfl,?_⟩
   cases dh with
   |ad _ _ q=>
    refine .ad _ _ (.eE t false _ _ (λ_=>a.eval x) ⟨rfl,rfl⟩ λi y aA=>?_)
    cases i with
    |zero=>
     simp only[hG,zXq,zXp,zXb,zYt]at aA;subst aA;exact q
    |succ i=>simp[hG]at aA
  ·cases h
theorem zje{e:Env}{x:Operand}{u:TypeId}{cH:Bool}{rs:List a6}{l:List ag}{y:ag}(hf: ∀c∈S.g,c.ok e)(az:S.bj N x= .eE u cH rs l)(aA:vD cH l=some y)(hZ:sE l=some rs){E:Entry}{a:Act}{w:World}{β:Nat->Value}{ro:Nat->Prop}(ah:dy E G (S.den G N B e) a w β ro):
 ∃v,a.eval x= .iface u v/\bN w ro (S.den G N B e).heap β (S.den G N B e).next (y.den G e) v:=by
 have dh:=ah.eval x;rw[b3 hf,az]at dh;simp only[ag.den]at dh;generalize hc:a.eval x=rR at dh
 cases dh with
 |ad _ _ q=>
  cases q with
  |eE _ _ _ v p aa ae=>
   refine⟨v,rfl,?_⟩;unfold vD at aA
   split at aA
   ·cases aA
    have:=Ha (σ:=(S.den G N B e).heap) (β:=β) (M:=(S.den G N B e).next) (.eE u _ _ v p aa ae);rw[zWq]at this;simp only[ag.den,JW hZ];exact this
   ·rename_i aU
    cases aA;simp only[sE]at hZ
    split at hZ
    ·rename_i zjf ri uU q7
     cases q7
     cases hZ;rw[hH uU];obtain⟨_,rfl⟩:=aa;exact .ad _ _ (ae 0 _ rfl)
    ·cases hZ
   ·cases aA
theorem zjg{k:Nat}{cH:Bool}{l:List ag}{y:ag}(h:ag.c6 k l=true)(aA:vD cH l=some y):y.lt k=true:=by
 unfold vD at aA
 split at aA
 ·cases aA;exact h
 ·cases aA;simp only[ag.c6,zW4]at h;exact h
 ·cases aA
theorem zjh{x:Operand}{o8 t:TypeId}{c:Bool}{r:eC}(av:o.op= .typeAssert x o8 t c)(h:Ph P t (S.bj N x) c=some r):kj P G N B M o S r:=λe hf hx hn=>by
 unfold Ph at h
 split at h
 rotate_left
 ·cases h
 rename_i u cH rs l az hi;obtain⟨d,hd,e3⟩:=Dq hi
 have aF: ∀{E:Entry} {a:Act} {w:World} {β:Nat->Value} {ro:Nat->Prop},dy E G (S.den G N B e) a w β ro->∃v,a.eval x= .iface u v/\dq w ro (.eE u cH ((hG e rs l).map aK.ad)) (.iface u v):=λ{E a w β ro} ah=>by
  have dh:=ah.eval x;rw[b3 hf,az]at dh;simp only[ag.den]at dh;generalize hc:a.eval x=rR at dh
  cases dh with
  |ad _ _ q=>
   cases q with
   |eE _ _ _ v p aa ae=>exact⟨v,rfl,.eE _ _ _ v p aa ae⟩
 have rT: ∀{y:ag} {w:World} {β:Nat->Value} {ro:Nat->Prop} {v:Value},vD cH l=some y->sE l=some rs->dq w ro (.eE u cH ((hG e rs l).map aK.ad)) (.iface u v)->bN w ro (S.den G N B e).heap β (S.den G N B e).next (y.den G e) v:=λ{y w β ro v} aA hZ q=>by
  unfold vD at aA
  split at aA
  ·cases aA
   have:=Ha (σ:=(S.den G N B e).heap) (β:=β) (M:=(S.den G N B e).next) q;rw[zWq]at this;simp only[ag.den,JW hZ];exact this
  ·rename_i aU
   cases aA;simp only[sE]at hZ
   split at hZ
   ·rename_i zjf ri aa ae
    cases ae;cases hZ;rw[hH aa]
    cases q with
    |eE _ _ _ _ p g1 g2=>
     obtain⟨_,rfl⟩:=g1;exact .ad _ _ (g2 0 _ rfl)
   ·cases hZ
  ·cases aA
 have Dr: ∀(v:Value) (w:World),u=t->(Instr.typeAssert (.iface u v) o8 t c).run P w= .ok (match c with|true=>.tuple #[v,.bool true]|false=>v) w:=λv w rS=>by
  unfold Instr.typeAssert
  cases d<;>first|exact absurd rfl (e3 _)|(cases c<;>simp[run_underlying hd,Result.andThen,rS])
 split at h
 ·rename_i af _
  have rS:=zWi af
  split at h
  ·rename_i y aA hZ
   cases h;intro E a w β ro ah;obtain⟨v,dh,q⟩:=aF ah;refine⟨.tuple #[v,.bool true],by simp[execOp,av,dh,Dr v w rS],.tuple _ _ rfl λj z aj=>?_⟩
   match j,aj with
   |0,aj=>simp[ag.den,ag.cc]at aj;subst aj;exact rT aA (of_decide_eq_true hZ) q|1,aj=>simp[ag.den,ag.cc]at aj;subst aj;exact .fu rfl|j+2,aj=>simp[ag.den,ag.cc]at aj
  ·cases h
 ·rename_i af _
  have rS:=zWi af
  split at h
  ·rename_i y aA hZ
   cases h;intro E a w β ro ah;obtain⟨v,dh,q⟩:=aF ah;exact⟨v,by simp[execOp,av,dh,Dr v w rS],rT aA (of_decide_eq_true hZ) q⟩
  ·cases h
 ·rename_i af _
  have rS: ¬u=t:=λe=>by subst e;rw[show zZu u u=true from Nat.beq_refl u]at af;cases af
  split at h
  ·rename_i z aW
   split at h
   ·rename_i lZ
    cases h;intro E a w β ro ah;obtain⟨v,dh,q⟩:=aF ah
    have wC:(zeroValue t).run P w= .ok z w:=by
     cases hi:P.info? t with
     |none=>rw[hi]at aW;cases aW
     |some i=>
      rw[hi]at aW;have m7:i.zero=some z:=aW;simp[zeroValue,typeInfo,hi,m7]
    have cE:(Instr.typeAssert (.iface u v) o8 t true).run P w= .ok (.tuple #[z,.bool false]) w:=by
     unfold Instr.typeAssert
     cases d<;>first|exact absurd rfl (e3 _)|simp[run_underlying hd,Result.andThen,rS,wC]
    have zji:(Pg z).den G e=nH z:=by
     clear cE wC lZ aW
     cases z with
     |agg a=>
      simp only[Pg,nH,ag.den,gh,zWq];rfl
     |_=>rfl
    refine⟨.tuple #[z,.bool false],by simp[execOp,av,dh,cE],.tuple _ _ rfl λj y aj=>?_⟩
    match j,aj with
    |0,aj=>simp[ag.den,ag.cc]at aj;subst aj;rw[zji];exact Ds lZ|1,aj=>simp[ag.den,ag.cc]at aj;subst aj;exact .fu rfl|j+2,aj=>simp[ag.den,ag.cc]at aj
   ·cases h
  ·cases h
 ·cases h
theorem zD{r:eC}(h:uf P N S o=some r):kj P G N B M o S r:=by
 unfold uf at h
 split at h
 ·rename_i x av
  cases h;exact .nil λe hf=>by have:=Wc (P:=P) (G:=G) (s:=S.den G N B e) x av;rw[b3 hf]at this;exact this
 ·rename_i x av
  cases h;exact .nil λe hf=>by have:=Wd (P:=P) (G:=G) (s:=S.den G N B e) x av;rw[b3 hf]at this;exact this
 ·exact ziQ (by assumption) h
 ·rename_i x i av
  split at h
  ·rename_i l au
   split at h
   ·rename_i v az
    cases h;exact .nil λe hf=>WG x i av (by rw[b3 hf,au];rfl) (JU az)
   ·cases h
  ·cases h
 ·rename_i x av
  split at h
  ·rename_i ar
   cases h
   exact .nil λe hf=>by
    have:=Wj (P:=P) (G:=G) (s:=S.den G N B e) x av (by rw[b3 hf];exact zy ar)
    rw[b3 hf]at this;exact this
  ·cases h
 ·rename_i t x f av
  split at h
  ·rename_i k an ar
   split at h
   ·rename_i p ao
    cases h
    exact .nil λe hf=>by
     have:=Wi (P:=P) (G:=G) (s:=S.den G N B e) t x f av an (by rw[b3 hf];exact zy ar)
     rw[b3 hf,Fz ao]at this;exact this
   ·cases h
  ·cases h
 ·exact ziW (by assumption) h
 ·exact zi1 (by assumption) h
 ·exact ziV (by assumption) h
 ·exact ziR (by assumption) h
 ·split at h
  ·rename_i aB
   cases h;exact ziI (by assumption) aB
  ·exact zi7 (by assumption) h
 ·exact ziZ (by assumption) h
 ·split at h
  ·rename_i aB
   cases h;exact ziY (by assumption) aB
  ·split at h
   ·rename_i aB
    cases h;exact zi8 (by assumption) aB
   ·exact zja (by assumption) h
 ·exact zi0 (by assumption) h
 ·rename_i f p q av
  cases h
  exact .nil λe hf=>by
   have:=TF (P:=P) (G:=G) (s:=S.den G N B e) av;simp only[ag.den];rw[gh,gh,zWq,zWq];have aa: ∀l:List Operand,l.map (aR G (S.den G N B e))=l.map (ag.den G e∘S.bj N):=λl=>zW9 λx _=>b3 hf x;rw[aa,aa]at this;exact this
 ·exact zjd (by assumption) h
 ·exact zjh (by assumption) h
 ·exact ziN (by assumption) h
 ·split at h
  ·rename_i aB
   cases h;exact X8 (by assumption) aB
  ·exact zi9 (by assumption) h
 ·exact X8 (by assumption) h
 ·rename_i c av
  split at h
  ·rename_i x t hc hx aJ
   obtain⟨callee,args,ts⟩:=c;simp only at hc hx aJ;rw[hc,Xe hx,Xe aJ]at av;exact ziX av h
  ·rename_i b x y hc hx
   obtain⟨callee,args,ts⟩:=c;simp only at hc hx;rw[hc,E1 hx]at av;exact zi2 av h
  ·rename_i f hc
   obtain⟨callee,args,ts⟩:=c;simp only at hc;rw[hc]at av;exact ziU av rfl h
  ·cases h
 ·cases h
end
end Go.aH
