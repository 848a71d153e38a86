/- CE, part B: the states of a closed run; operations that give a value, computed. Conditions: none. -/
import Derived.Test.YtddeffoppnlafaaGreatKCE0
import Derived.Test.YtddeffoppnlafaaGreatKTDm1
import Derived.Test.YtddeffoppnlafaaGreatKTDa
namespace Go.aK
open Go
def xO:aC→Option Nat
 | .ad (.v (.int _ (.ofNat k)))=>some k
 |_=>none
theorem D7{v:aC}{j:Nat}(h:xO v=some j): ∃k,v= .ad (.v (.int k (j:Int))):=by
 unfold xO at h
 split at h
 ·cases h;exact⟨_,rfl⟩
 ·cases h
def AJ(cC:Operand→aC)(d:Nat):Option Operand→Option Nat
 |none=>some d
 |some y=>xO (cC y)
theorem D8{cC:Operand→aC}{d l:Nat}{o:Option Operand}(h:AJ cC d o=some l):(o=none∧l=d)∨∃y k,o=some y∧cC y= .ad (.v (.int k (l:Int))):=by
 cases o with
 |none=>cases h;exact .inl ⟨rfl,rfl⟩
 |some y=>
  obtain⟨k,an⟩:=D7 h;exact .inr ⟨y,k,rfl,an⟩
def IJ(P:Program)(cC:Operand→aC)(t:TypeId)(x:Operand)(lo hi:Option Operand):Option aC:=
 match cC x with
 | .ad (.aq n es)=>match kS P t,AJ cC 0 lo,AJ cC es.length hi with
  |some m,some l,some h=>match Nat.beq m n&&(Nat.ble l h&&Nat.ble h es.length)with
   |true=>some (.ad (.aq n ((es.take h).drop l)))
   |false=>none
  |_,_,_=>none
 | .ad (.v (.string b))=>match isStr P t,AJ cC 0 lo,AJ cC b.size hi with
  |true,some l,some h=>match Nat.ble l h&&Nat.ble h b.size with
   |true=>some (.ad (.v (.string (b.extract l h))))
   |false=>none
  |_,_,_=>none
 |_=>none
def AK:List (List aU)→Option (List Int)
 |[]=>some []
 |[.v (.int .u8 n)]::r=>match AK r with
  |some l=>some (n::l)
  |none=>none
 |_::_=>none
theorem IK: ∀{es:List (List aU)} {l:List Int},AK es=some l→es=l.map fun n=>[.v (.int .u8 n)]
 |[],_,h=>by cases h;rfl
 |e::r,l,h=>by
  unfold AK at h
  split at h
  ·rename_i heq
   cases heq
  ·rename_i n eG heq
   obtain⟨rfl,rfl⟩:=List.cons.inj heq
   split at h
   ·rename_i er av
    cases h;rw[IK av,List.map_cons]
   ·cases h
  ·cases h
def IL(P:Program)(σ:Heap)(src dst:TypeId)(x:aC):Option aC:=
 match P.underlying src,P.underlying dst with
 |some (.slice e),some .string=>match P.underlying e,h0 σ 1 x with
  |some (.int .u8),some es=>match AK es with
   |some l=>some (.ad (.v (.string (bytesOf l))))
   |none=>none
  |_,_=>none
 |some (.pointer t),some .unsafePointer=>match x with
  | .ptr id off=>match aE σ id,(P.info? t).map (fun i=>decide (i.size=0))with
   |some (.box _ l),some false=>match Nat.blt off l.length with
    |true=>some x
    |false=>none
   |_,_=>none
  |_=>none
 |some .unsafePointer,some (.pointer u)=>match x with
  | .ptr id off=>match aE σ id with
   |some (.box bt l)=>match(liesAt P P.depth bt (l.length/ P.cellsOf bt) off u 1&&(P.info? u).isSome)&&Nat.blt off l.length with
    |true=>some x
    |false=>none
   |_=>none
  |_=>none
 |_,_=>none
def IM(P:Program)(t:TypeId)(x:aC):Option aC:=
 match vR P t,x with
 |false,.agg cs=>match jb cs with
  |some l=>some (.ad (.ei t true l))
  |none=>none
 |false,.ad y=>some (.ad (.ei t false [y]))
 |_,_=>none
def D9(cA:Bool)(l:List aU):Option aC:=
 match cA,l with
 |true,l=>some (.agg (l.map .ad))
 |false,[x]=>some (.ad x)
 |false,_=>none
def IN(P:Program)(t:TypeId)(x:aC)(c:Bool):Option aC:=
 match vR P t,x with
 |false,.ad (.ei u cA l)=>match Nat.beq u t,D9 cA l with
  |true,some v=>match c with
   |true=>some (.tuple [v,.ad (.v (.bool true))])
   |false=>some v
  |false,_=>match c,(P.info? t).bind (·.zero)with
   |true,some z=>match p3 z with
    |true=>some (.tuple [mf z,.ad (.v (.bool false))])
    |false=>none
   |_,_=>none
  |_,_=>none
 |false,.ad (.v .nilIface)=>match c,(P.info? t).bind (·.zero)with
  |true,some z=>match p3 z with
   |true=>some (.tuple [mf z,.ad (.v (.bool false))])
   |false=>none
  |_,_=>none
 |_,_=>none
inductive il where
 |box (t:TypeId) (cs:List aC)
 |row (AL:Bool) (t:TypeId) (n:Nat) (es:List (List aU))
 |it (b:ByteArray) (pos:Nat)
 |mp (agg:Bool) (c4:List (Value × List aU))
def il.den:il→ec
 | .box t cs=>.box t cs
 | .row z t n es=>.row z t n es
 | .it b p=>.bI (rm b p)
 | .mp a l=>.bI (kp a l)
abbrev et:=List (Nat × il)
def cX:et→Heap
 |[]=>[]
 |(k,o)::r=>(k,o.den)::cX r
def nt:et→Nat→Option il
 |[],_=>none
 |(k,o)::r,id=>match Nat.beq k id with
  |true=>some o
  |false=>nt r id
def rn:et→Nat→il→et
 |[],id,o=>[(id,o)]
 |(k,x)::r,id,o=>match Nat.beq k id with
  |true=>(k,o)::r
  |false=>(k,x)::rn r id o
def il.kill(id:Nat):il→il
 | .box t cs=>.box t (eM id cs)
 |o=>o
def xP(id:Nat):et→et
 |[]=>[]
 |(k,o)::r=>match Nat.beq k id with
  |true=>xP id r
  |false=>(k,o.kill id)::xP id r
theorem eI{a b:Nat}(h:Nat.beq a b=true):a=b:=Nat.eq_of_beq_eq_true h
theorem ug{a b:Nat}(h:Nat.beq a b=false): ¬a=b:=fun e=>by subst e;rw[Nat.beq_refl]at h;cases h
theorem sC: ∀(h:et) (id:Nat),aE (cX h) id=(nt h id).map il.den
 |[],_=>rfl
 |(k,o)::r,id=>by
  simp only[cX,aE,nt]
  cases ag:Nat.beq k id with
  |true=>simp[eI ag]
  |false=>simp[ug ag,sC r id]
theorem uh(o:il): ∀(h:et) (id:Nat),cX (rn h id o)=eA (cX h) id o.den
 |[],_=>rfl
 |(k,x)::r,id=>by
  simp only[cX,eA,rn]
  cases ag:Nat.beq k id with
  |true=>simp[eI ag,cX]
  |false=>simp[ug ag,cX,uh o r id]
theorem Y8(id:Nat)(o:il):(o.kill id).den=e0 id o.den:=by cases o<;>rfl
theorem Ea(id:Nat): ∀(h:et),cX (xP id h)=ef id (cX h)
 |[]=>rfl
 |(k,x)::r=>by
  simp only[xP]
  cases ag:Nat.beq k id with
  |true=>
   have:=eI ag
   subst this;simp only[cX,Ea k r]
   cases x<;>simp[il.den,ef]
  |false=>
   have:=ug ag
   simp only[cX,Ea id r,Y8]
   cases x<;>simp[il.den,ef,e0,this]
structure bD where
 l:bd aC
 N:Nat
 h:et
 n:Nat
 b:Nat
def bD.den(S:bD):aQ:=⟨mc S.l 0 S.N,cX S.h,S.n,S.b⟩
def bD.put(S:bD)(dst:Option Nat)(v:aC):bD:=
 match dst,S with
 |some d,⟨l,N,h,n,b⟩=>⟨l.put d v,N,h,n,b⟩
 |none,S=>S
theorem h1(S:bD)(dst:Option Nat)(v:aC):(S.put dst v).den=S.den.put dst v:=by
 cases S
 cases dst with
 |none=>rfl
 |some d=>simp only[bD.put,bD.den,aQ.put,QO]
def bD.up(S:bD)(l:bd aC)(h:et)(n:Nat):bD:=
 match S with
 |⟨_,N,_,_,b⟩=>⟨l,N,h,n,b⟩
theorem kq(S:bD)(l:bd aC)(h:et)(n:Nat):(S.up l h n).den=⟨mc l 0 S.N,cX h,n,S.b⟩:=by cases S;rfl
def bD.at(S:bD)(t:Nat):aC:=
 match S.l.get t with
 |some v=>v
 |none=>.top
def fc(G:aR)(S:bD):Operand→aC
 | .tmp t=>match Nat.blt t S.N with
  |true=>S.at t
  |false=>.top
 | .const v=>if v.oneCell' then .ad (.v v)else .top
 | .global g=>match G g with
  |some cs=>.ad (.ptr cs)
  |none=>.top
 | .func f=>.fn (.func f) [] []
theorem IP(S:bD)(t:Nat):S.den.db[t]? =match Nat.blt t S.N with
 |true=>some (S.at t)
 |false=>none:=by
 show(mc S.l 0 S.N)[t]? =_
 rw[ue,Nat.zero_add]
 cases h:Nat.blt t S.N with
 |true=>
  have:t<S.N:=Nat.le_of_ble_eq_true h
  rw[if_pos this];rfl
 |false=>
  have: ¬t<S.N:=fun av=>by
   rw[show Nat.blt t S.N=true from Nat.ble_eq_true_of_le av]at h
   cases h
  rw[if_neg this]
theorem ui(G:aR)(S:bD):fc G S=aP G S.den:=by
 funext x
 cases x with
 |tmp t=>
  simp only[fc,aP,List.getD,IP]
  cases Nat.blt t S.N<;>rfl
 |_=>rfl
def AM:TypeDesc→Value→Bool
 | .bool,.bool _=>true
 | .int k,.int a8 _=>decide (a8=k)
 | .string,.string _=>true
 |_,_=>false
theorem IQ{d:TypeDesc}{k:Value}(h:AM d k=true):Go.MapKept.IsKey d k:=by
 cases d<;>cases k<;>simp only[AM,Bool.false_eq_true,decide_eq_true_eq]at h<;>simp only[Go.MapKept.IsKey]<;>exact h
def vS:Value→Value→Bool
 | .bool a,.bool b=>a==b
 | .int _ a,.int _ b=>decide (a=b)
 | .string a,.string b=>gB a b
 |_,_=>false
theorem Y9{d:TypeDesc}{a b:Value}(a6:Go.MapKept.IsKey d a)(ag:Go.MapKept.IsKey d b)(h:vS a b=true):a=b:=by
 unfold vS at h
 split at h
 ·simp at h;rw[h]
 ·have h:=of_decide_eq_true h
  subst h
  cases d<;>simp only[Go.MapKept.IsKey]at a6 ag
  rw[a6,ag]
 ·rw[IS.1 h]
 ·cases h
theorem Za{d:TypeDesc}{a b:Value}(a6:Go.MapKept.IsKey d a)(h:vS a b=false):a≠b:=fun e=>by
 subst e
 cases a<;>simp[vS]at h<;>(cases d<;>simp[Go.MapKept.IsKey]at a6)
def vT(k:Value):List (Value × List aU)→Nat→Option Nat
 |[],_=>none
 |(a8,_)::r,i=>match vS a8 k with
  |true=>some i
  |false=>vT k r (i+1)
def AN(d:TypeDesc):List (Value × List aU)→Bool
 |[]=>true
 |(k,_)::r=>AM d k&&AN d r
theorem IT{d:TypeDesc}: ∀{l:List (Value × List aU)},AN d l=true→p4 d l
 |[],_=>fun p ar=>by cases ar
 |(k,_)::r,h=>fun p ar=>by
  simp only[AN,Bool.and_eq_true]at h
  rcases List.mem_cons.1 ar with rfl|q
  ·exact IQ h.1
  ·exact IT h.2 p q
theorem IU{d:TypeDesc}{k:Value}: ∀{l:List (Value × List aU)} {i:Nat},p4 d l→vT k l i=none→∀p∈l,p.1≠k
 |(a8,c)::r,i,an,h,p,ar=>by
  simp only[vT]at h
  cases he:vS a8 k with
  |true=>rw[he]at h;cases h
  |false=>
   rw[he]at h
   rcases List.mem_cons.1 ar with rfl|q
   ·exact Za (an _ (.head _)) he
   ·exact IU (fun q aG=>an q (.tail _ aG)) h p q
theorem IV{d:TypeDesc}{k:Value}(sD:Go.MapKept.IsKey d k): ∀{l:List (Value × List aU)} {i j:Nat},p4 d l→vT k l i=some j→i≤j∧∃cs,l[j-i]? =some (k,cs)
 |(a8,c)::r,i,j,an,h=>by
  simp only[vT]at h
  cases he:vS a8 k with
  |true=>
   rw[he]at h;cases h
   have:=Y9 (an _ (.head _)) sD he
   exact⟨Nat.le_refl _,c,by rw[Nat.sub_self,←this];rfl⟩
  |false=>
   rw[he]at h;obtain⟨ab,cs,ae⟩:=IV sD (fun q aG=>an q (.tail _ aG)) h;refine⟨by omega,cs,?_⟩
   rw[show j-i=(j-(i+1))+1 from by omega]
   exact ae
def IW(S:bD):aC→Option (Bool × List (Value × List aU))
 | .ref id=>match nt S.h id with
  |some (.mp a l)=>some (a,l)
  |_=>none
 |_=>none
def IX(P:Program)(S:bD)(t:TypeId)(m x:aC)(c:Bool):Option aC:=
 match IW S m,x,P.underlying t with
 |some (a,l),.ad (.v k),some (.map fl e1)=>match P.underlying fl with
  |some d=>match AM d k&&AN d l with
   |true=>match vT k l 0 with
    |some i=>match l[i]? with
     |some (_,cs)=>some (vU c (uj a cs) true)
     |none=>none
    |none=>match(P.info? e1).bind (·.zero)with
     |some z=>match p3 z with
      |true=>some (vU c (mf z) false)
      |false=>none
     |none=>none
   |false=>none
  |none=>none
 |_,_,_=>none
def Eb(σ:Heap)(id:Nat):Bool:=
 match aE σ id with
 |some (.box _ _)=>true
 |_=>false
def IY(P:Program)(σ:Heap)(op:BinOp)(cJ:TypeId)(x y:aC):Option aC:=
 match AO P cJ,Ec op with
 |true,some b=>match x,y with
  | .ad (.v (.pointer none)),.ad (.v (.pointer none))=>some (.ad (.v (.bool b)))
  | .ptr i o,.ptr j q=>match(Nat.beq i j&&Nat.beq o q)&&Eb σ i with
   |true=>some (.ad (.v (.bool b)))
   |false=>none
  | .ptr i _,.ad (.v (.pointer none))=>match Eb σ i with
   |true=>some (.ad (.v (.bool (!b))))
   |false=>none
  |_,_=>none
 |_,_=>none
def IZ(P:Program)(f:aC)(aI:List aC):Option aC:=
 match f with
 | .fn (.func f) [] []=>match xQ P f,aI with
  |1,[x]=>some x
  |2,[.ad (.v (.string b)),.ad (.v (.int .u8 c))]=>some (.ad (.v (.int .i64 (xR b c))))
  |_,_=>none
 |_=>none
def Ed(P:Program)(G:aR)(o:Oper)(S:bD):Option aC:=
 match Y1 P (fc G S) (cX S.h) o with
 |some v=>some v
 |none=>match o.op with
  | .binOp op t x y _=>match fc G S x,fc G S y with
   | .ad (.v (.int k a)),.ad (.v (.int a8 b))=>match AH op (.int k a) (.int a8 b)with
    |some c=>some (.ad (.v c))
    |none=>none
   |u,v=>IY P (cX S.h) op t u v
  | .unOp .xor _ x=>match fc G S x with
   | .ad (.v (.int k a))=>some (.ad (.v (.int k (aK.iO k (if k.signed then -1 else k.max) a))))
   |_=>none
  | .slice t x lo hi none=>IJ P (fc G S) t x lo hi
  | .convert src dst x=>IL P (cX S.h) src dst (fc G S x)
  | .makeFunc (.func f) p q=>some (.fn (.func f) (p.toList.map (fc G S)) (q.toList.map (fc G S)))
  | .makeInterface t x=>IM P t (fc G S x)
  | .typeAssert x _ t c=>IN P t (fc G S x) c
  | .lookup t m x c=>IX P S t (fc G S m) (fc G S x) c
  | .index t x i=>match xO (fc G S i),fc G S x,P.underlying t with
   |some j,.agg cs,some (.array len e)=>match cs[j]?,(scalar P e&&decide ((P.info? e).map (·.size)=some 1))&&Nat.blt j len with
    |some v,true=>some v
    |_,_=>none
   |_,_,_=>none
  | .call c=>match c.callee with
   | .value f=>IZ P (fc G S f) (c.args.toList.map (fc G S))
   |_=>none
  |_=>none
end Go.aK
