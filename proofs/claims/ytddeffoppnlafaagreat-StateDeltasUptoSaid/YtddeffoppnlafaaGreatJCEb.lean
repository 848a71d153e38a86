/- Conditions: none. -/
import Derived.Test.YtddeffoppnlafaaGreatJCE0
import Derived.Test.YtddeffoppnlafaaGreatJTDm1
import Derived.Test.YtddeffoppnlafaaGreatJTDa
open Nat renaming beq->zZu,ble->zZt,blt->zZs
namespace Go.aH
open Go
def Aw:aC->Option Nat
 | .ad (.v (.int _ (.ofNat k)))=>some k|_=>none
theorem G2{v:aC}{j:Nat}(h:Aw v=some j): ∃k,v= .ad (.v (.int k (j:Int))):=by
 unfold Aw at h
 split at h
 ·cases h;exact⟨_,rfl⟩
 ·cases h
def Dh(cI:Operand->aC)(d:Nat):Option Operand->Option Nat
 |none=>some d|some y=>Aw (cI y)
theorem G3{cI:Operand->aC}{d l:Nat}{o:Option Operand}(h:Dh cI d o=some l):(o=none/\l=d)\/∃y k,o=some y/\cI y= .ad (.v (.int k (l:Int))):=by
 cases o with
 |none=>cases h;exact .inl ⟨rfl,rfl⟩
 |some y=>
  obtain⟨k,an⟩:=G2 h;exact .inr ⟨y,k,rfl,an⟩
def L0(P:Program)(cI:Operand->aC)(t:TypeId)(x:Operand)(lo hi:Option Operand):Option aC:=
 match cI x with
 | .ad (.aq n es)=>match lY P t,Dh cI 0 lo,Dh cI es.length hi with
  |some m,some l,some h=>match zZu m n&&(zZt l h&&zZt h es.length)with
   |true=>some (.ad (.aq n ((es.take h).drop l)))|false=>none
  |_,_,_=>none
 | .ad (.v (.string b))=>match isStr P t,Dh cI 0 lo,Dh cI b.size hi with
  |true,some l,some h=>match zZt l h&&zZt h b.size with
   |true=>some (.ad (.v (.string (b.extract l h))))|false=>none
  |_,_,_=>none
 |_=>none
def Di:List (List a7)->Option (List Int)
 |[]=>some []|[.v (.int .u8 n)]::r=>match Di r with
  |some l=>some (n::l)|none=>none
 |_::_=>none
theorem L1: ∀{es:List (List a7)} {l:List Int},Di es=some l->es=l.map λn=>[.v (.int .u8 n)]
 |[],_,h=>by cases h;rfl
 |e::r,l,h=>by
  unfold Di at h
  split at h
  ·rename_i heq
   cases heq
  ·rename_i n e5 heq
   obtain⟨rfl,rfl⟩:=List.cons.inj heq
   split at h
   ·rename_i dF au
    cases h;rw[L1 au,List.map_cons]
   ·cases h
  ·cases h
def L2(P:Program)(σ:bK)(src dst:TypeId)(x:aC):Option aC:=
 match P.underlying src,P.underlying dst with
 |some (.slice e),some .string=>match P.underlying e,iQ σ 1 x with
  |some (.int .u8),some es=>match Di es with
   |some l=>some (.ad (.v (.string (bytesOf l))))|none=>none
  |_,_=>none
 |some (.pointer t),some .unsafePointer=>match x with
  | .ptr id off=>match aF σ id,(P.info? t).map (λi=>decide (i.size=0))with
   |some (.box _ l),some false=>match zZs off l.length with
    |true=>some x|false=>none
   |_,_=>none
  |_=>none
 |some .unsafePointer,some (.pointer u)=>match x with
  | .ptr id off=>match aF σ id with
   |some (.box bt l)=>match(liesAt P P.depth bt (l.length/ P.cellsOf bt) off u 1&&(P.info? u).isSome)&&zZs off l.length with
    |true=>some x|false=>none
   |_=>none
  |_=>none
 |_,_=>none
def L3(P:Program)(t:TypeId)(x:aC):Option aC:=
 match yc P t,x with
 |false,.agg cs=>match jU cs with
  |some l=>some (.ad (.eE t true l))|none=>none
 |false,.ad y=>some (.ad (.eE t false [y]))|_,_=>none
def G4(cH:Bool)(l:List a7):Option aC:=
 match cH,l with
 |true,l=>some (.agg (l.map .ad))|false,[x]=>some (.ad x)|false,_=>none
def L4(P:Program)(t:TypeId)(x:aC)(c:Bool):Option aC:=
 match yc P t,x with
 |false,.ad (.eE u cH l)=>match zZu u t,G4 cH l with
  |true,some v=>match c with
   |true=>some (.tuple [v,.ad (.v (.bool true))])|false=>some v
  |false,_=>match c,(P.info? t).bind (·.zero)with
   |true,some z=>match rP z with
    |true=>some (.tuple [nH z,.ad (.v (.bool false))])|false=>none
   |_,_=>none
  |_,_=>none
 |false,.ad (.v .nilIface)=>match c,(P.info? t).bind (·.zero)with
  |true,some z=>match rP z with
   |true=>some (.tuple [nH z,.ad (.v (.bool false))])|false=>none
  |_,_=>none
 |_,_=>none
inductive jf where
 |box (t:TypeId) (cs:List aC)
 |row (uM:Bool) (t:TypeId) (n:Nat) (es:List (List a7))
 |it (b:ByteArray) (pos:Nat)
 |mp (agg:Bool) (dg:List (Value × List a7))
def jf.den:jf->ey
 | .box t cs=>.box t cs| .row z t n es=>.row z t n es| .it b p=>.bW (tl b p)| .mp a l=>.bW (lz a l)
abbrev eM:=List (Nat × jf)
def c7:eM->bK
 |[]=>[]|(k,o)::r=>(k,o.den)::c7 r
def o7:eM->Nat->Option jf
 |[],_=>none|(k,o)::r,id=>match zZu k id with
  |true=>some o|false=>o7 r id
def tm:eM->Nat->jf->eM
 |[],id,o=>[(id,o)]|(k,x)::r,id,o=>match zZu k id with
  |true=>(k,o)::r|false=>(k,x)::tm r id o
def jf.kill(id:Nat):jf->jf
 | .box t cs=>.box t (ff id cs)|o=>o
def Ax(id:Nat):eM->eM
 |[]=>[]|(k,o)::r=>match zZu k id with
  |true=>Ax id r|false=>(k,o.kill id)::Ax id r
theorem e9{a b:Nat}(h:zZu a b=true):a=b:=Nat.eq_of_beq_eq_true h
theorem wy{a b:Nat}(h:zZu a b=false): ¬a=b:=λe=>by subst e;rw[Nat.beq_refl]at h;cases h
theorem uN: ∀(h:eM) (id:Nat),aF (c7 h) id=(o7 h id).map jf.den
 |[],_=>rfl|(k,o)::r,id=>by
  simp only[c7,aF,o7]
  cases af:zZu k id with
  |true=>simp[e9 af]|false=>simp[wy af,uN r id]
theorem wz(o:jf): ∀(h:eM) (id:Nat),c7 (tm h id o)=eX (c7 h) id o.den
 |[],_=>rfl|(k,x)::r,id=>by
  simp only[c7,eX,tm]
  cases af:zZu k id with
  |true=>simp[e9 af,c7]|false=>simp[wy af,c7,wz o r id]
theorem zdd(id:Nat)(o:jf):(o.kill id).den=fq id o.den:=by cases o<;>rfl
theorem G5(id:Nat): ∀(h:eM),c7 (Ax id h)=eD id (c7 h)
 |[]=>rfl|(k,x)::r=>by
  simp only[Ax]
  cases af:zZu k id with
  |true=>
   have:=e9 af;subst this;simp only[c7,G5 k r]
   cases x<;>simp[jf.den,eD]
  |false=>
   have:=wy af;simp only[c7,G5 id r,zdd]
   cases x<;>simp[jf.den,eD,fq,this]
structure bS where
 l:bn aC
 N:Nat
 h:eM
 n:Nat
 b:Nat
def bS.den(S:bS):aS:=⟨nG S.l 0 S.N,c7 S.h,S.n,S.b⟩
def bS.put(S:bS)(dst:Option Nat)(v:aC):bS:=
 match dst,S with
 |some d,⟨l,N,h,n,b⟩=>⟨l.put d v,N,h,n,b⟩|none,S=>S
theorem iR(S:bS)(dst:Option Nat)(v:aC):(S.put dst v).den=S.den.put dst v:=by
 cases S
 cases dst with
 |none=>rfl|some d=>simp only[bS.put,bS.den,aS.put,Tu]
def bS.up(S:bS)(l:bn aC)(h:eM)(n:Nat):bS:=
 match S with
 |⟨_,N,_,_,b⟩=>⟨l,N,h,n,b⟩
theorem lA(S:bS)(l:bn aC)(h:eM)(n:Nat):(S.up l h n).den=⟨nG l 0 S.N,c7 h,n,S.b⟩:=by cases S;rfl
def bS.at(S:bS)(t:Nat):aC:=
 match S.l.get t with
 |some v=>v|none=>.top
def fA(G:aV)(S:bS):Operand->aC
 | .tmp t=>match zZs t S.N with
  |true=>S.at t|false=>.top
 | .const v=>if v.oneCell' then .ad (.v v)else .top
 | .global g=>match G g with
  |some cs=>.ad (.ptr cs)|none=>.top
 | .func f=>.fn (.func f) [] []
theorem L5(S:bS)(t:Nat):S.den.dn[t]? =match zZs t S.N with
 |true=>some (S.at t)|false=>none:=by
 show(nG S.l 0 S.N)[t]? =_;rw[wv,Nat.zero_add]
 cases h:zZs t S.N with
 |true=>
  have:t<S.N:=Nat.le_of_ble_eq_true h;rw[if_pos this];rfl
 |false=>
  have: ¬t<S.N:=λau=>by
   rw[show zZs t S.N=true from Nat.ble_eq_true_of_le au]at h
   cases h
  rw[if_neg this]
theorem wA(G:aV)(S:bS):fA G S=aR G S.den:=by
 funext x
 cases x with
 |tmp t=>
  simp only[fA,aR,List.getD,L5]
  cases zZs t S.N<;>rfl
 |_=>rfl
def Dj:TypeDesc->Value->Bool
 | .bool,.bool _=>true| .int k,.int bl _=>decide (bl=k)| .string,.string _=>true|_,_=>false
theorem L6{d:TypeDesc}{k:Value}(h:Dj d k=true):Go.MapKept.IsKey d k:=by
 cases d<;>cases k<;>simp only[Dj,Bool.false_eq_true,decide_eq_true_eq]at h<;>simp only[Go.MapKept.IsKey]<;>exact h
def yd:Value->Value->Bool
 | .bool a,.bool b=>a==b| .int _ a,.int _ b=>decide (a=b)| .string a,.string b=>gv a b|_,_=>false
theorem zde{d:TypeDesc}{a b:Value}(ba:Go.MapKept.IsKey d a)(af:Go.MapKept.IsKey d b)(h:yd a b=true):a=b:=by
 unfold yd at h
 split at h
 ·simp at h;rw[h]
 ·have h:=of_decide_eq_true h
  subst h
  cases d<;>simp only[Go.MapKept.IsKey]at ba af
  rw[ba,af]
 ·rw[L7.1 h]
 ·cases h
theorem zdf{d:TypeDesc}{a b:Value}(ba:Go.MapKept.IsKey d a)(h:yd a b=false):a≠b:=λe=>by
 subst e
 cases a<;>simp[yd]at h<;>(cases d<;>simp[Go.MapKept.IsKey]at ba)
def ye(k:Value):List (Value × List a7)->Nat->Option Nat
 |[],_=>none|(bl,_)::r,i=>match yd bl k with
  |true=>some i|false=>ye k r (i+1)
def Dk(d:TypeDesc):List (Value × List a7)->Bool
 |[]=>true|(k,_)::r=>Dj d k&&Dk d r
theorem L8{d:TypeDesc}: ∀{l:List (Value × List a7)},Dk d l=true->rQ d l
 |[],_=>λp ar=>by cases ar
 |(k,_)::r,h=>λp ar=>by
  simp only[Dk,Bool.and_eq_true]at h
  rcases List.mem_cons.1 ar with rfl|q
  ·exact L6 h.1
  ·exact L8 h.2 p q
theorem L9{d:TypeDesc}{k:Value}: ∀{l:List (Value × List a7)} {i:Nat},rQ d l->ye k l i=none->∀p∈l,p.1≠k
 |(bl,c)::r,i,an,h,p,ar=>by
  simp only[ye]at h
  cases he:yd bl k with
  |true=>rw[he]at h;cases h
  |false=>
   rw[he]at h
   rcases List.mem_cons.1 ar with rfl|q
   ·exact zdf (an _ (.head _)) he
   ·exact L9 (λq aB=>an q (.tail _ aB)) h p q
theorem Ma{d:TypeDesc}{k:Value}(uO:Go.MapKept.IsKey d k): ∀{l:List (Value × List a7)} {i j:Nat},rQ d l->ye k l i=some j->i<=j/\∃cs,l[j-i]? =some (k,cs)
 |(bl,c)::r,i,j,an,h=>by
  simp only[ye]at h
  cases he:yd bl k with
  |true=>
   rw[he]at h;cases h;have:=zde (an _ (.head _)) uO he;exact⟨Nat.le_refl _,c,by rw[Nat.sub_self,<-this];rfl⟩
  |false=>
   rw[he]at h;obtain⟨aa,cs,ae⟩:=Ma uO (λq aB=>an q (.tail _ aB)) h;refine⟨by omega,cs,?_⟩
   rw[show j-i=(j-(i+1))+1 from by omega]
   exact ae
def Mb(S:bS):aC->Option (Bool × List (Value × List a7))
 | .ref id=>match o7 S.h id with
  |some (.mp a l)=>some (a,l)|_=>none
 |_=>none
def Mc(P:Program)(S:bS)(t:TypeId)(m x:aC)(c:Bool):Option aC:=
 match Mb S m,x,P.underlying t with
 |some (a,l),.ad (.v k),some (.map fK fr)=>match P.underlying fK with
  |some d=>match Dj d k&&Dk d l with
   |true=>match ye k l 0 with
    |some i=>match l[i]? with
     |some (_,cs)=>some (yf c (wB a cs) true)|none=>none
    |none=>match(P.info? fr).bind (·.zero)with
     |some z=>match rP z with
      |true=>some (yf c (nH z) false)|false=>none
     |none=>none
   |false=>none
  |none=>none
 |_,_,_=>none
def G6(σ:bK)(id:Nat):Bool:=
 match aF σ id with
 |some (.box _ _)=>true|_=>false
def Md(P:Program)(σ:bK)(op:BinOp)(cR:TypeId)(x y:aC):Option aC:=
 match Dl P cR,G7 op with
 |true,some b=>match x,y with
  | .ad (.v (.pointer none)),.ad (.v (.pointer none))=>some (.ad (.v (.bool b)))| .ptr i o,.ptr j q=>match(zZu i j&&zZu o q)&&G6 σ i with
   |true=>some (.ad (.v (.bool b)))|false=>none
  | .ptr i _,.ad (.v (.pointer none))=>match G6 σ i with
   |true=>some (.ad (.v (.bool (!b))))|false=>none
  |_,_=>none
 |_,_=>none
def Me(P:Program)(f:aC)(aI:List aC):Option aC:=
 match f with
 | .fn (.func f) [] []=>match Ay P f,aI with
  |1,[x]=>some x|2,[.ad (.v (.string b)),.ad (.v (.int .u8 c))]=>some (.ad (.v (.int .i64 (Az b c))))|_,_=>none
 |_=>none
def G8(P:Program)(G:aV)(o:Oper)(S:bS):Option aC:=
 match zc6 P (fA G S) (c7 S.h) o with
 |some v=>some v|none=>match o.op with
  | .binOp op t x y _=>match fA G S x,fA G S y with
   | .ad (.v (.int k a)),.ad (.v (.int bl b))=>match Df op (.int k a) (.int bl b)with
    |some c=>some (.ad (.v c))|none=>none
   |u,v=>Md P (c7 S.h) op t u v
  | .unOp .xor _ x=>match fA G S x with
   | .ad (.v (.int k a))=>some (.ad (.v (.int k (aH.jK k (if k.signed then -1 else k.max) a))))
   |_=>none
  | .slice t x lo hi none=>L0 P (fA G S) t x lo hi| .convert src dst x=>L2 P (c7 S.h) src dst (fA G S x)| .makeFunc (.func f) p q=>some (.fn (.func f) (p.toList.map (fA G S)) (q.toList.map (fA G S)))| .makeInterface t x=>L3 P t (fA G S x)| .typeAssert x _ t c=>L4 P t (fA G S x) c| .lookup t m x c=>Mc P S t (fA G S m) (fA G S x) c| .index t x i=>match Aw (fA G S i),fA G S x,P.underlying t with
   |some j,.agg cs,some (.array len e)=>match cs[j]?,(scalar P e&&decide ((P.info? e).map (·.size)=some 1))&&zZs j len with
    |some v,true=>some v|_,_=>none
   |_,_,_=>none
  | .call c=>match c.callee with
   | .value f=>Me P (fA G S f) (c.args.toList.map (fA G S))|_=>none
  |_=>none
end Go.aH
