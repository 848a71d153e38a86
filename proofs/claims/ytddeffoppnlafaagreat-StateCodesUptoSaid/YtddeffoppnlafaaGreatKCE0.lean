/- CE, part 0: operations that give a value, from a reader of operands; states with their slots in a tree. Conditions: none. -/
import Derived.Test.YtddeffoppnlafaaGreatKCEa
import Derived.Test.YtddeffoppnlafaaGreatKTDa
import Derived.Test.YtddeffoppnlafaaGreatKTDm1
namespace Go.aK
open Go
def Y0(P:Program)(cC:Operand→aC)(σ:Heap)(b:Builtin)(xs:List Operand)(ts:List TypeId):Option aC:=
 match b,xs,ts with
 | .len,[x],[t]=>match lN σ (cC x)with
  |some m=>if isSlice P t then some (.ad (.v (.int .i64 (m:Int))))else none
  |none=>match cC x with
   | .ad (.v (.string b))=>if isStr P t then some (.ad (.v (.int .i64 (b.size:Int))))else none
   |_=>match AF P t with
    |some n=>some (.ad (.v (.int .i64 (n:Int))))
    |none=>none
 | .min,[x,y],_=>match cC x,cC y with
  | .ad (.v (.int k m)),.ad (.v (.int a8 n))=>if k=a8 then some (.ad (.v (.int k (if n<m then n else m))))else none
  |_,_=>none
 | .max,[x,y],_=>match cC x,cC y with
  | .ad (.v (.int k m)),.ad (.v (.int a8 n))=>if k=a8 then some (.ad (.v (.int k (if n>m then n else m))))else none
  |_,_=>none
 |_,_,_=>none
def Y1(P:Program)(cC:Operand→aC)(σ:Heap)(o:Oper):Option aC:=
 match o.op with
 | .move x=>some (cC x)
 | .assign x=>some (cC x)
 | .load t x=>match fG σ (cC x)with
  |some cs=>match mb P t with
   |some n=>if n≤cs.length∧0<n then some (.agg (cs.take n))else none
   |none=>if scalar P t then match cs with
    |y::_=>some y
    |[]=>none
    else none
  |none=>none
 | .fieldAddr t x f=>match sA P t f,jt σ (cC x)with
  |some k,true=>some (p1 k (cC x))
  |_,_=>none
 | .nilCheck x=>match jt σ (cC x)with
  |true=>some (cC x)
  |false=>none
 | .field t x f=>match cC x,vO P t f with
  | .agg cs,some (off,none)=>match cs[off]? with
   |some v=>some v
   |none=>none
  | .agg cs,some (off,some n)=>if off+n≤cs.length then some (.agg ((cs.drop off).take n))else none
  |_,_=>none
 | .indexAddr t x i=>match cC i with
  | .ad (.v (.int _ (.ofNat j)))=>match kS P t with
   |some n=>match mM σ n j (cC x)with
    |some p=>some p
    |none=>none
   |none=>match uc P t,fG σ (cC x)with
    |some (len,n),some _=>if j<len then match jF (j*n) (cC x)with
     |some p=>some p
     |none=>none
     else none
    |_,_=>none
  |_=>none
 | .index t x i=>match cC i,cC x with
  | .ad (.v (.int _ (.ofNat j))),.ad (.v (.string b))=>if isStr P t then match b.data.toList[j]? with
   |some u=>some (.ad (.v (.int .u8 (u.toNat:Int))))
   |none=>none
   else none
  |_,_=>none
 | .binOp op cJ x y _=>match cC x,cC y with
  | .ad (.v (.bool u)),.ad (.v (.bool v))=>if AG P cJ then match op with
   | .eql=>some (.ad (.v (.bool (u==v))))
   | .neq=>some (.ad (.v (.bool (!(u==v)))))
   |_=>none
   else none
  | .ad (.v u),.ad (.v v)=>match j0 op u v with
   |some c=>some (.ad (.v c))
   |none=>none
  | .agg cs,.agg ds=>match np P cJ,hZ cs,hZ ds with
   |some fs,some xs,some ys=>match xN P 0 fs xs ys with
    |some b=>match op with
     | .eql=>some (.ad (.v (.bool b)))
     | .neq=>some (.ad (.v (.bool (!b))))
     |_=>none
    |none=>none
   |_,_,_=>none
  |_,_=>none
 | .unOp op _ x=>match op,cC x with
  | .not,.ad (.v (.bool b))=>some (.ad (.v (.bool (!b))))
  | .neg,.ad (.v (.int k n))=>some (.ad (.v (.int k (k.wrap (0-n)))))
  |_,_=>none
 | .pick c x y=>match cC c with
  | .ad (.v (.bool true))=>some (cC x)
  | .ad (.v (.bool false))=>some (cC y)
  |_=>none
 | .extract x i=>match cC x with
  | .tuple cs=>match cs[i]? with
   |some v=>some v
   |none=>none
  |_=>none
 | .build t parts=>match places P t,zeroCells P t with
  |some pl,some zs=>if zs.all Value.oneCell'∧(parts.toList.map fun p=>(p.1,cC p.2)).all (fun p=>(c1 p.2).all (eZ σ))then
   match kk pl (zs.map fun z=>.ad (.v z)) (parts.toList.map fun p=>(p.1,cC p.2))with
   |some ds=>some (.agg ds)
   |none=>none
   else none
  |_,_=>none
 | .call c=>match c.callee with
  | .builtin b=>Y0 P cC σ b c.args.toList c.argTypes.toList
  |_=>none
 | .convert src dst x=>match cC x,P.underlying dst with
  | .ad (.v (.int _ n)),some (.int a8)=>if(P.underlying src).isSome then some (.ad (.v (.int a8 (a8.wrap n))))else none
  |_,_=>none
 |_=>none
def Y2(P:Program)(cC:Operand→aC)(σ:Heap)(o:Oper):Option aC:=
 match o.op with
 | .move x=>some (cC x)
 | .assign x=>some (cC x)
 | .fieldAddr t x f=>match sA P t f,jt σ (cC x)with
  |some k,true=>some (p1 k (cC x))
  |_,_=>none
 | .nilCheck x=>match jt σ (cC x)with
  |true=>some (cC x)
  |false=>none
 |_=>none
def Y3(P:Program)(cC:Operand→aC)(o:Oper):Option aC:=
 match o.op with
 | .binOp op _ x y _=>match cC x,cC y with
  | .ad (.v u),.ad (.v v)=>match j0 op u v,AH op u v with
   |some c,_=>some (.ad (.v c))
   |none,some c=>some (.ad (.v c))
   |none,none=>none
  |_,_=>none
 | .convert src dst x=>match cC x,P.underlying src,P.underlying dst with
  | .ad (.v (.int _ n)),some _,some (.int a8)=>some (.ad (.v (.int a8 (a8.wrap n))))
  |_,_,_=>none
 | .extract x i=>match cC x with
  | .tuple cs=>cs[i]?
  |_=>none
 |_=>none
def Y4(P:Program)(cC:Operand→aC)(σ:Heap)(o:Oper):Option aC:=
 match o.op with
 | .load t x=>match fG σ (cC x)with
  |some (y::cs)=>match scalar P t with
   |true=>some y
   |false=>match mb P t with
    |some n=>if n≤(y::cs).length∧0<n then some (.agg ((y::cs).take n))else none
    |none=>none
  |_=>none
 |_=>none
def Y5(P:Program)(cC:Operand→aC)(σ:Heap)(t:TypeId)(len:Nat)(parts:List (Nat × Operand)):Option (TypeId × Nat × List (List aU)):=
 match ud P t with
 |some (e,n,zs)=>
  if len=0 then(if parts.isEmpty then some (e,n,[])else none)
  else if len*n≤16777216∧(parts.map fun p=>(p.1,cC p.2)).all (fun p=>(c1 p.2).all (eZ σ))then
   match kk (fun i=>some (i*n,n)) ((List.replicate len (zs.map fun z=>aC.ad (.v z))).flatten) (parts.map fun p=>(p.1,cC p.2))with
   |some ds=>match jb ds with
    |some rs=>some (e,n,chunk n len rs)
    |none=>none
   |none=>none
  else none
 |none=>none
def mc(l:bd aC):Nat→Nat→List aC
 |_,0=>[]
 |i,k+1=>(match l.get i with
  |some v=>v
  |none=>.top)::mc l (i+1) k
theorem ue(l:bd aC): ∀(n i j:Nat),(mc l i n)[j]? =if j<n then some (match l.get (i+j)with|some v=>v|none=>.top)else none
 |0,i,j=>by simp[mc]
 |n+1,i,j=>by
  cases j with
  |zero=>simp[mc]
  |succ j=>
   simp only[mc,List.getElem?_cons_succ,ue l n (i+1) j]
   rw[show i+1+j=i+(j+1)from by omega]
   by_cases h:j<n
   ·rw[if_pos h,if_pos (by omega)]
   ·rw[if_neg h,if_neg (by omega)]
theorem ID(l:bd aC): ∀(n i:Nat),(mc l i n).length=n
 |0,_=>rfl
 |n+1,i=>by simp[mc,ID l n (i+1)]
theorem QO(l:bd aC)(d:Nat)(v:aC)(N:Nat):mc (l.put d v) 0 N=(mc l 0 N).set d v:=by
 apply List.ext_getElem?
 intro j
 rw[List.getElem?_set,ue,ue,ID,Nat.zero_add,bd.kl]
 by_cases hd:d=j
 ·subst hd
  simp
 ·simp[hd]
theorem IE(id:Nat): ∀l:List aC,eM id l=l.map (ey id)
 |[]=>rfl
 |x::r=>by simp[eM,IE id r]
theorem IF(f:aC→aC)(hf:f .top= .top)(l:bd aC)(N:Nat):mc (l.map f) 0 N=(mc l 0 N).map f:=by
 apply List.ext_getElem?
 intro j
 rw[List.getElem?_map,ue,ue,Nat.zero_add,bd.get_map]
 by_cases aj:j<N
 ·simp only[if_pos aj,Option.map_some]
  cases l.get j<;>simp[hf]
 ·simp[if_neg aj]
def vP:List aC→Nat→bd aC→bd aC
 |[],_,t=>t
 |x::r,i,t=>vP r (i+1) (t.put i x)
theorem QP: ∀(l:List aC) (i j:Nat) (t:bd aC),(vP l i t).get j=if j<i then t.get j else(match l[j-i]? with|some x=>some x|none=>t.get j)
 |[],i,j,t=>by simp[vP]
 |x::r,i,j,t=>by
  simp only[vP,QP r (i+1) j,bd.kl]
  by_cases ab:j<i
  ·rw[if_pos (by omega),if_pos ab,if_neg (by omega)]
  ·rw[if_neg ab]
   by_cases ae:i=j
   ·subst ae
    simp
   ·rw[if_neg (by omega),if_neg ae,show j-i=(j-(i+1))+1 from by omega]
    simp
theorem QQ(xs:List aC)(k:Nat):mc (vP xs 0 .emp) 0 (xs.length+k)=xs++List.replicate k .top:=by
 apply List.ext_getElem?
 intro j
 rw[ue,Nat.zero_add,QP,List.getElem?_append]
 by_cases ab:j<xs.length
 ·have ae:j<xs.length+k:=by omega
  simp[ab,ae]
 ·by_cases ae:j<xs.length+k
  ·have aw:j-xs.length<k:=by omega
   simp[ab,ae,aw,List.getElem?_eq_none (show xs.length≤j by omega),bd.get]
  ·have aw: ¬j-xs.length<k:=by omega
   simp[ab,ae,aw]
end Go.aK
