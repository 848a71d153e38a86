/- Conditions: none. -/
import Derived.Test.YtddeffoppnlafaaGreatJCEa
import Derived.Test.YtddeffoppnlafaaGreatJTDa
import Derived.Test.YtddeffoppnlafaaGreatJTDm1
open List renaming ext_getElem?->zZy,replicate->zZz
namespace Go.aH
open Go
def zc5(P:Program)(cI:Operand->aC)(σ:bK)(b:Builtin)(xs:List Operand)(ts:List TypeId):Option aC:=
 match b,xs,ts with
 | .len,[x],[t]=>match m4 σ (cI x)with
  |some m=>if isSlice P t then some (.ad (.v (.int .i64 (m:Int))))else none
  |none=>match cI x with
   | .ad (.v (.string b))=>if isStr P t then some (.ad (.v (.int .i64 (b.size:Int))))else none
   |_=>match Dd P t with
    |some n=>some (.ad (.v (.int .i64 (n:Int))))|none=>none
 | .min,[x,y],_=>match cI x,cI y with
  | .ad (.v (.int k m)),.ad (.v (.int bl n))=>if k=bl then some (.ad (.v (.int k (if n<m then n else m))))else none
  |_,_=>none
 | .max,[x,y],_=>match cI x,cI y with
  | .ad (.v (.int k m)),.ad (.v (.int bl n))=>if k=bl then some (.ad (.v (.int k (if n>m then n else m))))else none
  |_,_=>none
 |_,_,_=>none
def zc6(P:Program)(cI:Operand->aC)(σ:bK)(o:Oper):Option aC:=
 match o.op with
 | .move x=>some (cI x)| .assign x=>some (cI x)| .load t x=>match gj σ (cI x)with
  |some cs=>match nF P t with
   |some n=>if n<=cs.length/\0<n then some (.agg (cs.take n))else none
   |none=>if scalar P t then match cs with
    |y::_=>some y|[]=>none
    else none
  |none=>none
 | .fieldAddr t x f=>match uK P t f,ka σ (cI x)with
  |some k,true=>some (rN k (cI x))|_,_=>none
 | .nilCheck x=>match ka σ (cI x)with
  |true=>some (cI x)|false=>none
 | .field t x f=>match cI x,x9 P t f with
  | .agg cs,some (off,none)=>match cs[off]? with
   |some v=>some v|none=>none
  | .agg cs,some (off,some n)=>if off+n<=cs.length then some (.agg ((cs.drop off).take n))else none
  |_,_=>none
 | .indexAddr t x i=>match cI i with
  | .ad (.v (.int _ (.ofNat j)))=>match lY P t with
   |some n=>match oo σ n j (cI x)with
    |some p=>some p|none=>none
   |none=>match wq P t,gj σ (cI x)with
    |some (len,n),some _=>if j<len then match ku (j*n) (cI x)with
     |some p=>some p|none=>none
     else none
    |_,_=>none
  |_=>none
 | .index t x i=>match cI i,cI x with
  | .ad (.v (.int _ (.ofNat j))),.ad (.v (.string b))=>if isStr P t then match b.data.toList[j]? with
   |some u=>some (.ad (.v (.int .u8 (u.toNat:Int))))|none=>none
   else none
  |_,_=>none
 | .binOp op cR x y _=>match cI x,cI y with
  | .ad (.v (.bool u)),.ad (.v (.bool v))=>if De P cR then match op with
   | .eql=>some (.ad (.v (.bool (u==v))))| .neq=>some (.ad (.v (.bool (!(u==v)))))|_=>none
   else none
  | .ad (.v u),.ad (.v v)=>match kv op u v with
   |some c=>some (.ad (.v c))|none=>none
  | .agg cs,.agg ds=>match o4 P cR,iP cs,iP ds with
   |some fs,some xs,some ys=>match Av P 0 fs xs ys with
    |some b=>match op with
     | .eql=>some (.ad (.v (.bool b)))| .neq=>some (.ad (.v (.bool (!b))))|_=>none
    |none=>none
   |_,_,_=>none
  |_,_=>none
 | .unOp op _ x=>match op,cI x with
  | .not,.ad (.v (.bool b))=>some (.ad (.v (.bool (!b))))| .neg,.ad (.v (.int k n))=>some (.ad (.v (.int k (k.wrap (0-n)))))|_,_=>none
 | .pick c x y=>match cI c with
  | .ad (.v (.bool true))=>some (cI x)| .ad (.v (.bool false))=>some (cI y)|_=>none
 | .extract x i=>match cI x with
  | .tuple cs=>match cs[i]? with
   |some v=>some v|none=>none
  |_=>none
 | .build t parts=>match places P t,zeroCells P t with
  |some pl,some zs=>if zs.all Value.oneCell'/\(parts.toList.map λp=>(p.1,cI p.2)).all (λp=>(dc p.2).all (fp σ))then
   match lr pl (zs.map λz=>.ad (.v z)) (parts.toList.map λp=>(p.1,cI p.2))with
   |some ds=>some (.agg ds)|none=>none
   else none
  |_,_=>none
 | .call c=>match c.callee with
  | .builtin b=>zc5 P cI σ b c.args.toList c.argTypes.toList|_=>none
 | .convert src dst x=>match cI x,P.underlying dst with
  | .ad (.v (.int _ n)),some (.int bl)=>if(P.underlying src).isSome then some (.ad (.v (.int bl (bl.wrap n))))else none
  |_,_=>none
 |_=>none
def zc7(P:Program)(cI:Operand->aC)(σ:bK)(o:Oper):Option aC:=
 match o.op with
 | .move x=>some (cI x)| .assign x=>some (cI x)| .fieldAddr t x f=>match uK P t f,ka σ (cI x)with
  |some k,true=>some (rN k (cI x))|_,_=>none
 | .nilCheck x=>match ka σ (cI x)with
  |true=>some (cI x)|false=>none
 |_=>none
def zc8(P:Program)(cI:Operand->aC)(o:Oper):Option aC:=
 match o.op with
 | .binOp op _ x y _=>match cI x,cI y with
  | .ad (.v u),.ad (.v v)=>match kv op u v,Df op u v with
   |some c,_=>some (.ad (.v c))|none,some c=>some (.ad (.v c))|none,none=>none
  |_,_=>none
 | .convert src dst x=>match cI x,P.underlying src,P.underlying dst with
  | .ad (.v (.int _ n)),some _,some (.int bl)=>some (.ad (.v (.int bl (bl.wrap n))))|_,_,_=>none
 | .extract x i=>match cI x with
  | .tuple cs=>cs[i]?|_=>none
 |_=>none
def zc9(P:Program)(cI:Operand->aC)(σ:bK)(o:Oper):Option aC:=
 match o.op with
 | .load t x=>match gj σ (cI x)with
  |some (y::cs)=>match scalar P t with
   |true=>some y|false=>match nF P t with
    |some n=>if n<=(y::cs).length/\0<n then some (.agg ((y::cs).take n))else none
    |none=>none
  |_=>none
 |_=>none
def zda(P:Program)(cI:Operand->aC)(σ:bK)(t:TypeId)(len:Nat)(parts:List (Nat × Operand)):Option (TypeId × Nat × List (List a7)):=
 match wu P t with
 |some (e,n,zs)=>
  if len=0 then(if parts.isEmpty then some (e,n,[])else none)
  else if len*n<=16777216/\(parts.map λp=>(p.1,cI p.2)).all (λp=>(dc p.2).all (fp σ))then
   match lr (λi=>some (i*n,n)) ((zZz len (zs.map λz=>aC.ad (.v z))).flatten) (parts.map λp=>(p.1,cI p.2))with
   |some ds=>match jU ds with
    |some rs=>some (e,n,chunk n len rs)|none=>none
   |none=>none
  else none
 |none=>none
def nG(l:bn aC):Nat->Nat->List aC
 |_,0=>[]
 |i,k+1=>(match l.get i with
  |some v=>v
  |none=>.top)::nG l (i+1) k
theorem wv(l:bn aC): ∀(n i j:Nat),(nG l i n)[j]? =if j<n then some (match l.get (i+j)with|some v=>v|none=>.top)else none
 |0,i,j=>by simp[nG]|n+1,i,j=>by
  cases j with
  |zero=>simp[nG]|succ j=>
   simp only[nG,List.getElem?_cons_succ,wv l n (i+1) j];rw[show i+1+j=i+(j+1)from by omega]
   by_cases h:j<n
   ·rw[if_pos h,if_pos (by omega)]
   ·rw[if_neg h,if_neg (by omega)]
theorem LU(l:bn aC): ∀(n i:Nat),(nG l i n).length=n
 |0,_=>rfl|n+1,i=>by simp[nG,LU l n (i+1)]
theorem Tu(l:bn aC)(d:Nat)(v:aC)(N:Nat):nG (l.put d v) 0 N=(nG l 0 N).set d v:=by
 apply zZy;intro j;rw[List.getElem?_set,wv,wv,LU,Nat.zero_add,bn.lu]
 by_cases hd:d=j
 ·subst hd
  simp
 ·simp[hd]
theorem LV(id:Nat): ∀l:List aC,ff id l=l.map (eV id)
 |[]=>rfl|x::r=>by simp[ff,LV id r]
theorem LW(f:aC->aC)(hf:f .top= .top)(l:bn aC)(N:Nat):nG (l.map f) 0 N=(nG l 0 N).map f:=by
 apply zZy;intro j;rw[List.getElem?_map,wv,wv,Nat.zero_add,bn.get_map]
 by_cases aj:j<N
 ·simp only[if_pos aj,Option.map_some]
  cases l.get j<;>simp[hf]
 ·simp[if_neg aj]
def ya:List aC->Nat->bn aC->bn aC
 |[],_,t=>t|x::r,i,t=>ya r (i+1) (t.put i x)
theorem Tv: ∀(l:List aC) (i j:Nat) (t:bn aC),(ya l i t).get j=if j<i then t.get j else(match l[j-i]? with|some x=>some x|none=>t.get j)
 |[],i,j,t=>by simp[ya]|x::r,i,j,t=>by
  simp only[ya,Tv r (i+1) j,bn.lu]
  by_cases aa:j<i
  ·rw[if_pos (by omega),if_pos aa,if_neg (by omega)]
  ·rw[if_neg aa]
   by_cases ae:i=j
   ·subst ae
    simp
   ·rw[if_neg (by omega),if_neg ae,show j-i=(j-(i+1))+1 from by omega]
    simp
theorem Tw(xs:List aC)(k:Nat):nG (ya xs 0 .emp) 0 (xs.length+k)=xs++zZz k .top:=by
 apply zZy;intro j;rw[wv,Nat.zero_add,Tv,List.getElem?_append]
 by_cases aa:j<xs.length
 ·have ae:j<xs.length+k:=by omega
  simp[aa,ae]
 ·by_cases ae:j<xs.length+k
  ·have aw:j-xs.length<k:=by omega
   simp[aa,ae,aw,List.getElem?_eq_none (show xs.length<=j by omega),bn.get]
  ·have aw: ¬j-xs.length<k:=by omega
   simp[aa,ae,aw]
end Go.aH
