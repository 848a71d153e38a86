/- TD, part J: more operations that give values; all of them. Conditions: none. -/
import Derived.Test.YtmkpmgfieagphaaGreatDoorRTDi
import Derived.Laws.Externs
import Derived.Laws.LoneSync
import Derived.LaidEqlPtr
import Derived.Test.YtmkpmgfieagphaaGreatDoorRSMu
import Derived.Test.YtmkpmgfieagphaaGreatDoorRTDb
import Derived.Lib.AppendStr
namespace Go.aM
open Go
def ab.sy(x g:ab)(b:Bool):ab:=
 match x with
 | .fr h c v=>match zd g h&&(decide (c=b))with
  |true=>v
  |false=>x
 |x=>x
def IH(S:ar)(c x y:ab):Option dQ:=
 match c,lj c S.g with
 | .cs (.bool b),_=>some ⟨[],[],match b with|true=>x|false=>y⟩
 |c,some b=>match c.rt with
  |some .bool=>some ⟨[],[],match b with|true=>x|false=>y⟩
  |_=>none
 |c,none=>match c.rt with
  |some .bool=>match(match(x.sy c true).rt with|some r=>some r|none=>(y.sy c false).rt)with
   |some r=>match(x.sy c true).fF r&&((y.sy c false).fF r&&r.one)with
    |true=>some ⟨[.Cx r c (x.sy c true) (y.sy c false)],[],.bl r S.k⟩
    |false=>none
   |none=>none
  |_=>none
def sz(r:aZ):List ab→Bool
 |[]=>true
 |x::l=>x.fF r&&sz r l
def Qa:List ab→Option aZ
 |[]=>none
 |x::_=>x.rt
def II(P:Program)(S:ar)(t:TypeId)(x i:ab):Option dQ:=
 match x with
 | .cF l=>match P.underlying t with
  |some (.array len el)=>match scalar P el&&Nat.beq l.length len,(P.info? el).map (·.size)with
   |true,some 1=>match i with
    | .cs (.int .i64 (.ofNat j))=>match l[j]? with
     |some v=>some ⟨[],[],v⟩
     |none=>none
    |i=>match i.rt,Qa l with
     |some (.int .i64),some r=>match sz r l&&r.one with
      |true=>some ⟨[.nth r l i],wF S.g l.length i,.bl r S.k⟩
      |false=>none
     |_,_=>none
   |_,_=>none
  |_=>none
 |x=>match x.rt,i.rt,isStr P t with
  |some .str,some (.int k),true=>some ⟨[.f2 (.q3 k) x i],oT S.g .nU (.q3 k) x i,.bl (.int .u8) S.k⟩
  |_,_,_=>none
def uL(x:ab):Option bO:=
 match x.rt with
 |some (.li c)=>some c
 |_=>none
def Z0(P:Program)(t:TypeId)(n:Nat):Option bO:=
 match P.underlying t with
 |some (.slice el)=>Zg.find? fun c=>Nat.beq n (c8 c)&&(rb P el (iY c 0 0 (fo c))).isSome
 |_=>none
def IJ(P:Program)(f:Nat):Nat:=
 match P.funcs[f]? with
 |some fn=>match fn.body.isNone&&fn.origin== "",fn.name== "internal/abi.NoEscape",fn.name== "internal/bytealg.IndexByteString" with
  |true,true,_=>1
  |true,false,true=>2
  |_,_,_=>0
 |none=>0
def IK(P:Program)(S:ar)(f:ab)(as:List ab):Option dQ:=
 match f with
 | .fn (.func f) [] []=>match IJ P f,as with
  |1,[x]=>some ⟨[],[],x⟩
  |2,[x,y]=>match x.rt,y.rt with
   |some .str,some (.int .u8)=>some ⟨[.f2 .tW x y],[],.bl (.int .i64) S.k⟩
   |_,_=>none
  |_,_=>none
 |_=>none
def IL(P:Program)(S:ar)(t:TypeId)(x i:ab):Option dQ:=
 match i.rt with
 |some (.int k)=>match jV P t with
  |some n=>match x with
   | .aP id=>match dq S.h id with
    |some (.rw _ c y)=>match Nat.beq n (c8 c)with
     |true=>some ⟨[],oT S.g (.iC c) (.j3 c k) y i,.gy id i 0⟩
     |false=>none
    |_=>none
   | .cz id m=>match dq S.h id,i with
    |some (.dc _ _),.cs (.int _ (.ofNat j))=>match Nat.blt j m with
     |true=>some ⟨[],[],.dD id (j*n)⟩
     |false=>none
    |_,_=>none
   |x=>match uL x with
    |some c=>match Nat.beq n (c8 c)with
     |true=>some ⟨[.f2 (.j3 c k) x i],oT S.g (.iC c) (.j3 c k) x i,.ip c S.k 0⟩
     |false=>none
    |none=>match x.isNil,Z0 P t n with
     |true,some c=>some ⟨[.f2 (.j3 c k) x i],[.f2 0 (.j3 c k) x i],.ip c S.k 0⟩
     |_,_=>none
  |none=>match uh P t,uI S x with
   |some (len,n),some _=>match i,x with
    | .cs (.int _ (.ofNat j)),x=>match Nat.blt j len,wH (j*n) x with
     |true,some p=>some ⟨[],[],p⟩
     |_,_=>none
    |i,.dD id off=>some ⟨[],wF S.g len i,.gF id off i n⟩
    |_,_=>none
   |_,_=>none
 |_=>none
def IM(P:Program)(S:ar)(t:TypeId)(x:ab):Option dQ:=
 match x with
 | .gy id i off=>match dq S.h id,i.rt with
  |some (.rw _ c y),some (.int k)=>match rb P t ((iY c S.k 0 (fo c)).drop off),y.fF (.li c)with
   |some v,true=>some ⟨[.f2 (.j3 c k) y i],oT S.g (.iC c) (.j3 c k) y i,v⟩
   |_,_=>none
  |_,_=>none
 | .gF id off i 1=>match dq S.h id,i.rt with
  |some (.dc _ l),some (.int _)=>match Qa (l.drop off)with
   |some r=>match sz r (l.drop off)&&(r.one&&scalar P t)with
    |true=>some ⟨[.nth r (l.drop off) i],wF S.g (l.drop off).length i,.bl r S.k⟩
    |false=>none
   |none=>none
  |_,_=>none
 |x=>match uI S x with
  |some l=>match rb P t l with
   |some v=>some ⟨[],[],v⟩
   |none=>none
  |none=>none
def IN(P:Program)(S:ar)(t:TypeId)(x:ab):Option dQ:=
 match x with
 | .cs (.slice none 0 0)=>match isSlice P t with
  |true=>some ⟨[],[],.cs (.int .i64 0)⟩
  |false=>none
 | .cs (.string s)=>match isStr P t with
  |true=>some ⟨[],[],.cs (.int .i64 (ByteArray.size s:Int))⟩
  |false=>none
 | .cz id n=>match dq S.h id,isSlice P t with
  |some (.dc _ _),true=>some ⟨[],[],.cs (.int .i64 (n:Int))⟩
  |_,_=>none
 | .aP id=>match dq S.h id with
  |some (.rw _ c y)=>match isSlice P t with
   |true=>some ⟨[.f1 (.iC c) y],[],.bl (.int .i64) S.k⟩
   |false=>none
  |_=>none
 |x=>match x.rt with
  |some .str=>match isStr P t with
   |true=>some ⟨[.f1 .nU x],[],.bl (.int .i64) S.k⟩
   |false=>none
  |some (.li c)=>match isSlice P t with
   |true=>some ⟨[.f1 (.iC c) x],[],.bl (.int .i64) S.k⟩
   |false=>none
  |_=>match B6 P t with
   |some n=>some ⟨[],[],.cs (.int .i64 (n:Int))⟩
   |none=>none
def wJ(N:Nat)(S:ar):Option Operand→Option (Option ab)
 |none=>some none
 |some y=>match(S.a6 N y).rt with
  |some (.int _)=>some (some (S.a6 N y))
  |_=>none
def IP(P:Program)(N:Nat)(S:ar)(t:TypeId)(x:ab)(lo hi:Option Operand):Option dQ:=
 match wJ N S lo,wJ N S hi with
 |some l,some h=>match x.rt with
  |some .str=>match isStr P t with
   |true=>some ⟨[.uD x l h],(match l,h with|none,none=>[]|_,_=>[.uD x l h]),.bl .str S.k⟩
   |false=>none
  |some (.li c)=>match jV P t with
   |some n=>match Nat.beq n (c8 c)with
    |true=>some ⟨[.eX c x l h],(match l,h with|none,none=>[]|_,_=>[.eX c x l h]),.bl (.li c) S.k⟩
    |false=>none
   |none=>none
  |_=>none
 |_,_=>none
def Qb(P:Program)(S:ar)(src dst:TypeId)(id:Nat):Option dQ:=
 match dq S.h id,P.underlying src with
 |some (.rw _ .u8 y),some (.slice el)=>match P.underlying el,P.underlying dst with
  |some (.int .u8),some .string=>some ⟨[.f1 .cz y],[],.bl .str S.k⟩
  |_,_=>none
 |_,_=>none
def IQ(P:Program)(S:ar)(src dst:TypeId)(x:ab):Option dQ:=
 match x with
 | .aP id=>Qb P S src dst id
 |x=>match x.rt with
  |some (.int k)=>match P.underlying src,P.underlying dst with
   |some _,some (.int br)=>some ⟨[.f1 (.q0 k br) x],[],.bl (.int br) S.k⟩
   |_,_=>none
  |some (.li .u8)=>match P.underlying src with
   |some (.slice el)=>match P.underlying el,P.underlying dst with
    |some (.int .u8),some .string=>some ⟨[.f1 .cz x],[],.bl .str S.k⟩
    |_,_=>none
   |_=>none
  |_=>none
def IS(S:ar)(op:UnOp)(x:ab):Option dQ:=
 match op,x.rt with
 | .not,some .bool=>some ⟨[.f1 .nh x],[],.bl .bool S.k⟩
 | .neg,some (.int k)=>some ⟨[.f1 (.y7 k) x],[],.bl (.int k) S.k⟩
 | .xor,some (.int k)=>some ⟨[.f1 (.tV k) x],[],.bl (.int k) S.k⟩
 |_,_=>none
def IT(P:Program)(N:Nat)(S:ar)(t:TypeId)(ps:List (Nat × Operand)):Option dQ:=
 match places P t,zeroCells P t with
 |some pl,some zs=>match zs.all Value.oneCell'&&(ps.map fun p=>(p.1,S.a6 N p.2)).all fun p=>p.2.cells.all (kK S.h)with
  |true=>match re pl (zs.map .cs) (ps.map fun p=>(p.1,S.a6 N p.2))with
   |some ds=>some ⟨[],[],.cF ds⟩
   |none=>none
  |false=>none
 |_,_=>none
def IU(P:Program)(t:TypeId)(x:ab)(f:Nat):Option dQ:=
 match x,vS P t f with
 | .cF l,some (off,none)=>match l[off]? with
  |some v=>some ⟨[],[],v⟩
  |none=>none
 | .cF l,some (off,some n)=>match Nat.ble (off+n) l.length with
  |true=>some ⟨[],[],.cF ((l.drop off).take n)⟩
  |false=>none
 |_,_=>none
def IV(S:ar)(b:Builtin)(x y:ab):Option dQ:=
 match x.rt,y.rt,b with
 |some (.int k),some (.int br),.min=>match decide (k=br)with
  |true=>some ⟨[.f2 (.tX k) x y],[],.bl (.int k) S.k⟩
  |false=>none
 |some (.int k),some (.int br),.max=>match decide (k=br)with
  |true=>some ⟨[.f2 (.mx k) x y],[],.bl (.int k) S.k⟩
  |false=>none
 |_,_,_=>none
def CJ(P:Program)(t:TypeId):Bool:=
 match P.underlying t with
 |some (.pointer e)=>(P.info? e).isSome&&match(P.info? e).map (fun i=>decide (i.size=0))with
  |some false=>true
  |_=>false
 |_=>false
def zn(S:ar)(id:Nat):Bool:=
 match dq S.h id with
 |some (.dc _ _)=>true
 |_=>false
def CK(S:ar)(b:Bool)(g:ab):Option dQ:=
 match g.rt,b with
 |some .bool,true=>some ⟨[],[],g⟩
 |some .bool,false=>some ⟨[.f1 .nh g],[],.bl .bool S.k⟩
 |_,_=>none
def IW:BinOp→Option Bool
 | .eql=>some true
 | .neq=>some false
 |_=>none
def IX(P:Program)(S:ar)(op:BinOp)(cl:TypeId)(x y:ab):Option dQ:=
 match CJ P cl,IW op with
 |true,some b=>match x,y with
  | .cs (.pointer none),.cs (.pointer none)=>some ⟨[],[],.cs (.bool b)⟩
  | .dD i o,.dD j q=>match(Nat.beq i j&&Nat.beq o q)&&zn S i with
   |true=>some ⟨[],[],.cs (.bool b)⟩
   |false=>none
  | .e4 g (some i) _,.cs (.pointer none)=>match zn S i with
   |true=>CK S (!b) g
   |false=>none
  | .e4 g (some i) o,.dD j q=>match(Nat.beq i j&&Nat.beq o q)&&zn S i with
   |true=>CK S b g
   |false=>none
  |_,_=>none
 |_,_=>none
def IY(P:Program)(S:ar)(src dst:TypeId)(x:ab):Option dQ:=
 match x with
 | .dD id off=>match dq S.h id,P.underlying src,P.underlying dst with
  |some (.dc _ l),some (.pointer t),some .unsafePointer=>match(P.info? t).map (fun i=>decide (i.size=0)),Nat.blt off l.length with
   |some false,true=>some ⟨[],[],x⟩
   |_,_=>none
  |some (.dc bt l),some .unsafePointer,some (.pointer u)=>match liesAt P P.depth bt (l.length/ P.cellsOf bt) off u 1&&(P.info? u).isSome,Nat.blt off l.length with
   |true,true=>some ⟨[],[],x⟩
   |_,_=>none
  |_,_,_=>none
 |_=>none
def pR(P:Program)(N:Nat)(S:ar)(o:Oper):Option dQ:=
 match o.op with
 | .move x=>some ⟨[],[],S.a6 N x⟩
 | .assign x=>some ⟨[],[],S.a6 N x⟩
 | .pick c x y=>IH S (S.a6 N c) (S.a6 N x) (S.a6 N y)
 | .extract x i=>match S.a6 N x with
  | .tp l=>match l[i]? with
   |some v=>some ⟨[],[],v⟩
   |none=>none
  |_=>none
 | .nilCheck x=>match sx S (S.a6 N x)with
  |true=>some ⟨[],[],S.a6 N x⟩
  |false=>none
 | .fieldAddr t x f=>match r5 P t f,sx S (S.a6 N x)with
  |some k,true=>match wH k (S.a6 N x)with
   |some p=>some ⟨[],[],p⟩
   |none=>none
  |_,_=>none
 | .load t x=>IM P S t (S.a6 N x)
 | .field t x f=>IU P t (S.a6 N x) f
 | .indexAddr t x i=>IL P S t (S.a6 N x) (S.a6 N i)
 | .index t x i=>II P S t (S.a6 N x) (S.a6 N i)
 | .binOp op cl x y _=>match IG P S op cl (S.a6 N x) (S.a6 N y)with
  |some r=>some r
  |none=>IX P S op cl (S.a6 N x) (S.a6 N y)
 | .unOp op _ x=>IS S op (S.a6 N x)
 | .convert src dst x=>match IQ P S src dst (S.a6 N x)with
  |some r=>some r
  |none=>IY P S src dst (S.a6 N x)
 | .build t ps=>IT P N S t ps.toList
 | .makeFunc (.func f) p q=>some ⟨[],[],.fn (.func f) (p.toList.map (S.a6 N)) (q.toList.map (S.a6 N))⟩
 | .slice t x lo hi none=>IP P N S t (S.a6 N x) lo hi
 | .call c=>match c.callee,c.args.toList,c.argTypes.toList with
  | .builtin .len,[x],[t]=>IN P S t (S.a6 N x)
  | .builtin b,[x,y],_=>IV S b (S.a6 N x) (S.a6 N y)
  | .value f,l,_=>IK P S (S.a6 N f) (l.map (S.a6 N))
  |_,_,_=>none
 |_=>none
section
variable {P:Program} {G:a7} {o:Oper} {N B:Nat} {S:ar} {M:List a1}
theorem Qc{e:Env}{g:ab}{b:Bool}{x:ab}(h:g.aH e .bool=b):(x.sy g b).den G e=x.den G e:=by
 unfold ab.sy
 split
 ·rename_i h' c v
  split
  ·rename_i ae
   simp only[Bool.and_eq_true,decide_eq_true_eq]at ae
   have:=Iv ae.1
   subst this;obtain⟨_,rfl⟩:=ae;simp only[ab.den,h]
   cases c<;>rfl
  ·rfl
 ·rfl
theorem CL{e:Env}{r:aZ}(h:r.one=true)(x:ab):x.get e r=x.aH e r:=by
 cases r<;>first|rfl|cases h
theorem j7.nil{v:ab}(h: ∀e,(∀c∈S.g,c.ok e)→cV P G o (S.den G N B e) (v.den G e)):j7 P G N B M o S ⟨[],[],v⟩:=fun e hf _ _=>h e hf
theorem Z1{c x y:Operand}{r:dQ}(an:o.op= .pick c x y)(h:IH S (S.a6 N c) (S.a6 N x) (S.a6 N y)=some r):j7 P G N B M o S r:=fun e hf hx hn=>by
 unfold IH at h
 split at h
 ·rename_i b ae
  cases h
  have hc:aJ G (S.den G N B e) c= .au (.v (.bool b)):=by rw[bJ hf,ae];rfl
  refine yz c x y an hc ?_
  cases b<;>simp[bJ hf]
 ·rename_i b ae _
  split at h
  ·rename_i af
   cases h
   have aj:=pN ae hf
   have hc:aJ G (S.den G N B e) c= .au (.v (.bool b)):=by rw[bJ hf,gJ af,aj];rfl
   refine yz c x y an hc ?_
   cases b<;>simp[bJ hf]
  ·cases h
 ·split at h
  ·rename_i hc
   split at h
   ·rename_i q _
    split at h
    ·rename_i ae
     cases h;simp only[Bool.and_eq_true]at ae
     have yq:aJ G (S.den G N B e) c= .au (.v (.bool ((S.a6 N c).aH e .bool))):=(bJ hf c).trans (gJ hc)
     refine(yz c x y an yq rfl).sub ?_
     have aU:Env.at e S.k=_:=hx 0 _ rfl
     simp only[ab.den,aU,bS.den,cT,bJ hf,CL ae.2.2]
     cases gl:(S.a6 N c).aH e .bool with
     |true=>
      simp only[cond_true,if_true];rw[←Qc (G:=G) (x:=S.a6 N x) gl];exact uC ae.1
     |false=>
      simp only[cond_false,Bool.false_eq_true,if_false];rw[←Qc (G:=G) (x:=S.a6 N y) gl];exact uC ae.2.1
    ·cases h
   ·cases h
  ·cases h
theorem IZ{e:Env}{r:aZ}: ∀{l:List ab} {j:Nat} {x:ab},sz r l=true→l[j]? =some x→Sub (x.den G e) (.au (fQ r (ss e r l j)))
 |[],_,_,_,h=>by simp at h
 |[y],j,x,aI,h=>by
  have ai:j=0:=by
   have:=(List.getElem?_eq_some_iff.1 h).1
   simp at this;exact this
  subst ai;simp only[List.getElem?_cons_zero,Option.some.injEq]at h
  subst h;simp only[sz,Bool.and_eq_true]at aI;exact uC aI.1
 |y::z::l,0,x,aI,h=>by
  simp only[List.getElem?_cons_zero,Option.some.injEq]at h
  subst h;simp only[sz,Bool.and_eq_true]at aI;exact uC aI.1
 |y::z::l,j+1,x,aI,h=>by
  simp only[List.getElem?_cons_succ]at h
  simp only[sz,Bool.and_eq_true]at aI
  have:=IZ (e:=e) (r:=r) (l:=z::l) (j:=j) (x:=x) (by simp only[sz,Bool.and_eq_true];exact aI.2) h
  have ae:Nat.beq (j+1) 0=false:=rfl
  simp only[ss,ae,cond_false,Nat.add_sub_cancel];exact this
theorem CM{e:Env}{l:List ab}{j:Nat}{x:ab}(h:l[j]? =some x):(ab.bR G e l)[j]? =some (x.den G e):=by rw[eG,List.getElem?_map,h];rfl
theorem Z2{t:TypeId}{x i:Operand}{r:dQ}(an:o.op= .index t x i)(h:II P S t (S.a6 N x) (S.a6 N i)=some r):j7 P G N B M o S r:=fun e hf hx hn=>by
 unfold II at h
 split at h
 ·rename_i l ao
  have fZ:aJ G (S.den G N B e) x= .agg (ab.bR G e l):=by rw[bJ hf,ao];rfl
  split at h
  ·rename_i len el hu
   split at h
   ·rename_i ae bK
    simp only[Bool.and_eq_true]at ae
    have hlen:=Nat.eq_of_beq_eq_true ae.2
    split at h
    ·rename_i j hi
     split at h
     ·rename_i v av
      cases h
      have ai:=(List.getElem?_eq_some_iff.1 av).1
      exact PA j an hu ae.1 bK (by rw[bJ hf,hi];rfl) fZ (CM av) (by omega)
     ·cases h
    ·split at h
     ·rename_i ew hi af
      split at h
      ·rename_i aI
       cases h;simp only[Bool.and_eq_true]at aI
       have kF:0≤cg ((S.a6 N i).dyn e)∧cg ((S.a6 N i).dyn e)<(l.length:Int):=CF hf hn
       obtain⟨j,ai⟩: ∃j:Nat,cg ((S.a6 N i).dyn e)=(j:Int):=⟨_,(Int.toNat_of_nonneg kF.1).symm⟩
       have dT:j<l.length:=by omega
       have gE:aJ G (S.den G N B e) i=iy (j:Int):=by
        rw[bJ hf,jB hi,←mo hi,ai]
       have av:l[j]? =some l[j]:=List.getElem?_eq_getElem dT
       refine(PA j an hu ae.1 bK gE fZ (CM av) (by omega)).sub ?_
       have aU:Env.at e S.k=_:=hx 0 _ rfl
       simp only[ab.den,aU,bS.den,cT,ai,Int.toNat_natCast];exact IZ aI.1 av
      ·cases h
     ·cases h
   ·cases h
  ·cases h
 ·split at h
  ·rename_i k aa ad aG
   cases h
   have fZ:aJ G (S.den G N B e) x=_:=(bJ hf x).trans (gJ aa)
   have gE:aJ G (S.den G N B e) i=_:=(bJ hf i).trans (jB ad)
   obtain⟨g1,g2⟩:=ZV hf ad hn;exact pO (f:=.q3 k) (hx 0 _ rfl) (ZA _ k _ an (um aG) gE fZ g1 g2)
  ·cases h
theorem Qd{e:Env}{c:bO}{i:Nat}{x:gh c}(h:Env.at e i=⟨.st c,x⟩):(ab.ip c i 0).den G e= .au (.ptr (cZ c x)):=by
 simp only[ab.den,h,cT,List.drop_zero]
theorem getD_at{c:bO}{l:List (gh c)}{z:Int}(aU:0≤z)(aa:z<(l.length:Int)):l[z.toNat]? =some (l.getD z.toNat (dJ c)):=by
 have:z.toNat<l.length:=by omega
 rw[List.getD_eq_getElem?_getD,List.getElem?_eq_getElem this]
 rfl
theorem I0{e:Env}{x:ab}{c:bO}(h:uL x=some c):x.den G e= .au (.li c (x.aH e (.li c)))∧x.rt=some (.li c):=by
 unfold uL at h
 split at h
 ·rename_i jL af
  cases h;exact⟨gJ af,af⟩
 ·cases h
theorem Z3{s:aN}{x:Operand}{t:TypeId}(an:o.op= .call {callee:=.builtin .len,args:=#[x],argTypes:=#[t]})(aG:isSlice P t=true){id n:Nat}(hx:aJ G s x= .dF id n){bt:TypeId}{cs:List aE}(hid:aF s.heap id=some (.box bt cs)):cV P G o s (.au (.v (.int .i64 (n:Int)))):=
 fun E a w β ro af=>by
  have h:=af.eval x
  rw[hx]at h;generalize hc:a.eval x=c at h
  cases h with
  |dF _ _ _ ao ak=>
   obtain⟨b,_,rfl⟩:=ak _ _ hid;unfold isSlice at aG
   split at aG
   ·rename_i e hu
    refine⟨.int .i64 n,?_,.fO rfl⟩
    simp[execOp,an,resolve,invoke,builtin,hc,Builtin.len_,run_underlying hu,goInt]
   ·cases aG
theorem Z4{s:aN}{x y:Operand}{t:TypeId}(an:o.op= .indexAddr t x y){l5:Nat}(aG:jV P t=some l5){k:IntKind}{j n:Nat}(az:aJ G s y= .au (.v (.int k (j:Int))))(ai:j<n){id:Nat}(hx:aJ G s x= .dF id n){bt:TypeId}{cs:List aE}(hid:aF s.heap id=some (.box bt cs)):cV P G o s (.ptr id (j*l5)):=
 fun E a w β ro af=>by
  have h:=af.eval x
  rw[hx]at h;generalize hc:a.eval x=c at h
  cases h with
  |dF _ _ _ ao ak=>
   obtain⟨b,ae,rfl⟩:=ak _ _ hid;obtain⟨e,hu,bK⟩:=yF aG;refine⟨.pointer (some ⟨b,j*l5,none⟩),?_,.ptr _ _ _ ao fun bw cs' _=>⟨b,ae,rfl⟩⟩
   by_cases bu:j*l5=0<;>simp[execOp,an,hc,af.ep az,Instr.indexAt,asIntOf,run_underlying hu,ai,bK,Addr.add,bu]
theorem Z5(cz:ByteArray)(c:Int):Extern.BytealgIndexByte.indexByte #[.string cz,.int .u8 c]=pure (.int .i64 (tA cz c)):=by
 have hi:Extern.BytealgIndexByte.indexByte #[.string cz,.int .u8 c]=(match(List.range cz.size).find? fun i=>cz[i]! ==c.toNat.toUInt8 with
  |some i=>pure (goInt i)
  |none=>pure (goInt (-1))):=rfl
 rw[hi]
 unfold tA
 cases List.find? (fun i=>cz[i]! ==c.toNat.toUInt8) (List.range cz.size)<;>rfl
theorem CN{a b:String}(h:(a==b)=true):a=b:=by simpa using h
theorem Z6{f:Operand}{as:List Operand}{args:Array Operand}{ts:Array TypeId}{r:dQ}(an:o.op= .call {callee:=.value f,args:=args,argTypes:=ts})(aI:args.toList=as)(h:IK P S (S.a6 N f) (as.map (S.a6 N))=some r):j7 P G N B M o S r:=fun e hf hx hn=>by
 unfold IK at h
 split at h
 rotate_left
 ·cases h
 rename_i Qe uM
 have wK:aJ G (S.den G N B e) f= .fn (.func Qe) [] []:=by rw[bJ hf,uM];rfl
 have start: ∀{ev:Array Value→Sem Value} {fn:Func},P.funcs[Qe]? =some fn→fn.body.isNone=true→(fn.name== "runtime.NumGoroutine")=false→Extern.findNext fn=none→Extern.find fn=some ev→∀E a w β ro,c9 E G (S.den G N B e) a w β ro→(execOp a.eval o).run P w=((ev (args.map a.eval)).run P w).andThen fun v w'=>.ok (.value v) w':=fun {ev fn} aa ad aq aS bC E a w β ro af=>by
  have hc:=af.eval f
  rw[wK]at hc;generalize he:a.eval f=B4 at hc
  cases hc with
  |fn _ _ _ c d g1 g2 _ _=>
   have h4:c= #[]:=by simpa using g1
   have qT:d= #[]:=by simpa using g2
   subst h4 qT;simp only[execOp,an,resolve,he,Deferred.ofValue,Sem.run_bind,Sem.run_pure,Result.andThen_ok,invoke,Array.empty_append,Array.append_empty];exact run_callFunc_extern aa aq ad aS bC _ w
 split at h
 ·rename_i x aj ao
  cases h;unfold IJ at aj
  split at aj
  rotate_left
  ·cases aj
  rename_i fn uN
  split at aj
  ·rename_i _ zo vO
   simp only[Bool.and_eq_true]at zo;obtain⟨ae,gw⟩:=zo
   have hn:=CN vO
   have gw:=CN gw
   obtain⟨y,rfl⟩: ∃y,as=[y]:=by
    match as,ao with
    |[y],_=>exact⟨y,rfl⟩
   simp only[List.map_cons,List.map_nil,List.cons.injEq,and_true]at ao
   have h8:args= #[y]:=by rw[←Array.toList_inj];exact aI
   intro E a w β ro af;refine⟨a.eval y,?_,by have:=af.eval y;rw[bJ hf,ao]at this;exact this⟩
   rw[start (ev:=Extern.AbiNoEscape.same) uN ae (by rw[hn];rfl) (by unfold Extern.findNext;simp only[hn,gw];rfl) (by unfold Extern.find;simp only[hn,gw];rfl) E a w β ro af,h8]
   have hm:(#[y]:Array Operand).map a.eval= #[a.eval y]:=by simp
   rw[hm];rfl
  ·cases aj
  ·cases aj
 ·rename_i x z aj ao
  split at h
  ·rename_i g1 g2
   cases h;unfold IJ at aj
   split at aj
   rotate_left
   ·cases aj
   rename_i fn uN
   split at aj
   ·cases aj
   ·rename_i zo _ vO
    simp only[Bool.and_eq_true]at zo;obtain⟨ae,gw⟩:=zo
    have hn:=CN vO
    have gw:=CN gw
    obtain⟨y,u,rfl⟩: ∃y u,as=[y,u]:=by
     match as,ao with
     |[y,u],_=>exact⟨y,u,rfl⟩
    simp only[List.map_cons,List.map_nil,List.cons.injEq,and_true]at ao
    have h8:args= #[y,u]:=by rw[←Array.toList_inj];exact aI
    have az:aJ G (S.den G N B e) y= .au (.v (.string (x.aH e .str))):=by rw[bJ hf,ao.1];exact gJ g1
    have hu:aJ G (S.den G N B e) u= .au (.v (.int .u8 (z.aH e (.int .u8)))):=by rw[bJ hf,ao.2];exact gJ g2
    refine pO (f:=.tW) (hx 0 _ rfl) fun E a w β ro af=>?_
    refine⟨.int .i64 (tA (x.aH e .str) (z.aH e (.int .u8))),?_,.fO rfl⟩
    rw[start (ev:=Extern.BytealgIndexByte.indexByte) uN ae (by rw[hn];rfl) (by unfold Extern.findNext;simp only[hn,gw];rfl) (by unfold Extern.find;simp only[hn,gw];rfl) E a w β ro af,h8]
    have hm:(#[y,u]:Array Operand).map a.eval= #[.string (x.aH e .str),.int .u8 (z.aH e (.int .u8))]:=by simp[af.ep az,af.ep hu]
    rw[hm];rw[Z5];rfl
   ·cases aj
  ·cases h
 ·cases h
theorem Z7{t:TypeId}{x i:Operand}{r:dQ}(an:o.op= .indexAddr t x i)(h:IL P S t (S.a6 N x) (S.a6 N i)=some r):j7 P G N B M o S r:=fun e hf hx hn=>by
 unfold IL at h
 split at h
 ·rename_i k hi
  have gE:aJ G (S.den G N B e) i=_:=(bJ hf i).trans (jB hi)
  split at h
  ·rename_i n lP
   split at h
   ·rename_i id hid
    split at h
    ·rename_i bw c y ah
     split at h
     ·rename_i ae
      cases h
      have ae:=Nat.eq_of_beq_eq_true ae
      obtain⟨g1,g2⟩:=wG hf hi hn;obtain⟨j,ai⟩: ∃j:Nat,(S.a6 N i).aH e (.int k)=(j:Int):=⟨_,(Int.toNat_of_nonneg g1).symm⟩;rw[ai]at gE g2
      have g2:(j:Int)<((List.length (y.aH e (.li c)):Nat):Int):=g2
      have:=OT t x i an lP gE (p:=.cH id j 0) (by
       rw[bJ hf,hid];simp only[ab.den,nc,ar.den,eR,ah,Option.map_some,bE.den]
       rw[if_pos ⟨ae.symm,by rw[List.length_map];omega⟩])
      simp only[ab.den,mo hi,ai,Int.toNat_natCast];exact this
     ·cases h
    ·cases h
   ·rename_i id m hid
    split at h
    ·rename_i bt l br j ah ug
     split at h
     ·rename_i OX
      cases h;exact Z4 an lP (k:=br) (j:=j) (by rw[bJ hf,ug];rfl) (e2 OX) (id:=id) (bt:=bt) (cs:=ab.bR G e l) (by rw[bJ hf,hid];rfl) (by simp only[ar.den,eR,ah,Option.map_some,bE.den])
     ·cases h
    ·cases h
   ·split at h
    ·rename_i c hc
     split at h
     ·rename_i ae
      cases h
      have ae:=Nat.eq_of_beq_eq_true ae
      rw[ae]at lP;obtain⟨hd,I1⟩:=I0 (G:=G) (e:=e) hc;obtain⟨g1,g2⟩:=wG hf hi hn
      have:=(PK c _ k _ an lP gE ((bJ hf x).trans hd) g1 g2).v
      have aU:Env.at e S.k=_:=hx 0 _ rfl
      have aa:=Qd (G:=G) (x:=List.getD ((S.a6 N x).aH e (.li c)) (Int.toNat ((S.a6 N i).aH e (.int k))) (dJ c)) aU
      show cV P G o _ ((ab.ip c S.k 0).den G e);rw[aa];exact this
     ·cases h
    ·split at h
     ·rename_i c r9 _
      cases h
      have kF:=hn _ (List.mem_singleton.2 rfl)
      have bu:(S.a6 N x).aH e (.li c)=[]:=by
       unfold ab.isNil at r9
       split at r9
       ·rename_i aL
        simp only[aL,ab.aH,ab.fM,cT]
       ·cases r9
      simp only[fK.ok,b6.wo,bu]at kF
      have ad:(S.a6 N i).aH e (.int k)<((List.length ([]:List (gh c)):Nat):Int):=kF.2
      have aq:0≤(S.a6 N i).aH e (.int k):=kF.1
      exact absurd (Int.lt_of_le_of_lt aq ad) (Int.lt_irrefl _)
     ·cases h
  ·split at h
   ·rename_i len n l aI ao
    have fA:=zl (G:=G) (N:=N) (B:=B) (e:=e) ao
    rw[←bJ (B:=B) hf]at fA
    split at h
    ·rename_i br j ai
     split at h
     ·rename_i p dT ak
      cases h
      have dT:=e2 dT
      refine HG t x i an aI (k:=br) (j:=j) (by rw[bJ hf,ai];rfl) dT fA ?_
      have ag:=zm (G:=G) (e:=e) ak
      rw[←ag,←bJ (N:=N) (B:=B) hf];revert fA
      cases aJ G (S.den G N B e) x<;>intro fA<;>first|(simp[fj]at fA;done)|skip
      all_goals rename_i y
      ·cases y<;>first|(simp[fj]at fA;done)|rfl
      ·rfl
      ·rfl
     ·cases h
    ·rename_i id off hid _
     cases h
     have kF:0≤cg ((S.a6 N i).dyn e)∧cg ((S.a6 N i).dyn e)<(len:Int):=CF hf hn
     obtain⟨j,ai⟩: ∃j:Nat,cg ((S.a6 N i).dyn e)=(j:Int):=⟨_,(Int.toNat_of_nonneg kF.1).symm⟩;rw[←mo hi,ai]at gE;refine HG t x i an aI gE (by omega) fA ?_
     rw[bJ hf,hid];simp only[ab.den,iT,ai,Int.toNat_natCast]
    ·cases h
   ·cases h
 ·cases h
theorem Z8{t:TypeId}{x:Operand}{r:dQ}(an:o.op= .load t x)(h:IM P S t (S.a6 N x)=some r):j7 P G N B M o S r:=fun e hf hx hn=>by
 unfold IM at h
 split at h
 ·rename_i id i off ak
  split at h
  ·rename_i bw c y k ah hi
   split at h
   ·rename_i v av az
    cases h;obtain⟨g1,g2⟩:=wG hf hi hn
    have aU:Env.at e S.k=⟨.st c,List.getD (y.aH e (.li c)) (i.aH e (.int k)).toNat (dJ c)⟩:=hx 0 _ rfl
    refine P9 an ?_ av
    rw[bJ hf,ak];simp only[ab.den,fj,ar.den,eR,ah,Option.map_some,bE.den,mo hi];rw[List.getElem?_map,getD_at g1 g2]
    simp only[Option.map_some,Option.some.injEq];rw[IE,wk,aU,cT,List.map_drop]
   ·cases h
  ·cases h
 ·rename_i id off i ak
  split at h
  ·rename_i bw l k ah hi
   split at h
   ·rename_i q aL
    split at h
    ·rename_i aI
     cases h;simp only[Bool.and_eq_true]at aI
     have kF:0≤cg (i.dyn e)∧cg (i.dyn e)<((l.drop off).length:Int):=CF hf hn
     obtain⟨j,ai⟩: ∃j:Nat,cg (i.dyn e)=(j:Int):=⟨_,(Int.toNat_of_nonneg kF.1).symm⟩
     have dT:j<(l.drop off).length:=by omega
     have av:(l.drop off)[j]? =some (l.drop off)[j]:=List.getElem?_eq_getElem dT
     have hd:(l.drop off).drop j=(l.drop off)[j]::(l.drop off).drop (j+1):=List.drop_eq_getElem_cons dT
     have:=Hk t x an aI.2.2 (y:=((l.drop off)[j]).den G e) (cs:=ab.bR G e ((l.drop off).drop (j+1))) (s:=S.den G N B e) (G:=G) (by
      rw[bJ hf,ak];simp only[ab.den,fj,ar.den,eR,ah,Option.map_some,bE.den,ai,Int.toNat_natCast,Nat.mul_one,Option.some.injEq];rw[←IE,←List.drop_drop,hd]
      rfl)
     refine this.sub ?_
     have aU:Env.at e S.k=_:=hx 0 _ rfl
     simp only[ab.den,aU,bS.den,cT,ai,Int.toNat_natCast];exact IZ aI.1 av
    ·cases h
   ·cases h
  ·cases h
 ·split at h
  ·rename_i l ao
   split at h
   ·rename_i v av
    cases h;refine P9 an ?_ av
    rw[bJ hf];exact zl ao
   ·cases h
  ·cases h
theorem Z9{t:TypeId}{x:Operand}{r:dQ}(an:o.op= .call {callee:=.builtin .len,args:=#[x],argTypes:=#[t]})(h:IN P S t (S.a6 N x)=some r):j7 P G N B M o S r:=fun e hf hx hn=>by
 unfold IN at h
 split at h
 ·rename_i ak
  split at h
  ·rename_i aG
   cases h;exact HE x t an aG (m:=0) (by rw[bJ hf,ak];rfl)
  ·cases h
 ·rename_i b ak
  split at h
  ·rename_i aG
   cases h;exact HF x t an (um aG) (by rw[bJ hf,ak];rfl)
  ·cases h
 ·rename_i id n ak
  split at h
  ·rename_i bt l ah aG
   cases h;exact Z3 an aG (id:=id) (bt:=bt) (cs:=ab.bR G e l) (by rw[bJ hf,ak];rfl) (by simp only[ar.den,eR,ah,Option.map_some,bE.den])
  ·cases h
 ·rename_i id ak
  split at h
  ·rename_i bw c y ah
   split at h
   ·rename_i aG
    cases h;refine pP (f:=.iC c) (hx 0 _ rfl) (HE x t an aG (m:=List.length (y.aH e (.li c))) ?_)
    rw[bJ hf,ak];simp only[ab.den,lI,ar.den,eR,ah,Option.map_some,bE.den,List.length_map]
   ·cases h
  ·cases h
 ·split at h
  ·rename_i af
   split at h
   ·rename_i aG
    cases h;exact pP (f:=.nU) (hx 0 _ rfl) (HF x t an (um aG) ((bJ hf x).trans (gJ af)))
   ·cases h
  ·rename_i c af
   split at h
   ·rename_i aG
    cases h;exact pP (f:=.iC c) (hx 0 _ rfl) (ZB c _ an aG ((bJ hf x).trans (gJ af)))
   ·cases h
  ·split at h
   ·rename_i n I2
    cases h;exact OR x t an I2
   ·cases h
theorem wL{e:Env}(hf: ∀c∈S.g,c.ok e){lo:Option Operand}{l:Option ab}(h:wJ N S lo=some l):zg G (S.den G N B e) lo (nV e l):=by
 unfold wJ at h
 split at h
 ·cases h;trivial
 ·split at h
  ·rename_i y k af
   cases h;exact⟨k,by rw[bJ hf,jB af,mo af]⟩
  ·cases h
theorem zaa{t:TypeId}{x:Operand}{lo hi:Option Operand}{r:dQ}(an:o.op= .slice t x lo hi none)(h:IP P N S t (S.a6 N x) lo hi=some r):j7 P G N B M o S r:=fun e hf hx hn=>by
 unfold IP at h
 split at h
 ·rename_i l h' ao aX
  split at h
  ·rename_i af
   split at h
   ·rename_i aG
    cases h
    have aU:Env.at e S.k=_:=hx 0 _ rfl
    simp only[ab.den,aU,bS.den,cT];refine ZQ _ an (um aG) ((bJ hf x).trans (gJ af)) (wL hf ao) (wL hf aX) ?_
    cases l<;>cases h'<;>first|trivial|exact hn _ (List.mem_singleton.2 rfl)
   ·cases h
  ·rename_i c af
   split at h
   ·rename_i n lP
    split at h
    ·rename_i ae
     cases h;rw[Nat.eq_of_beq_eq_true ae]at lP
     have aU:Env.at e S.k=_:=hx 0 _ rfl
     simp only[ab.den,aU,bS.den,cT];refine(P1 c _ an lP ((bJ hf x).trans (gJ af)) (wL hf ao) (wL hf aX) ?_).v
     cases l<;>cases h'<;>first|trivial|exact hn _ (List.mem_singleton.2 rfl)
    ·cases h
   ·cases h
  ·cases h
 ·cases h
theorem zab{src dst:TypeId}{x:Operand}{r:dQ}(an:o.op= .convert src dst x)(h:IQ P S src dst (S.a6 N x)=some r):j7 P G N B M o S r:=fun e hf hx hn=>by
 unfold IQ at h
 split at h
 ·rename_i id hid
  unfold Qb at h
  split at h
  ·rename_i bw y el ah ag
   split at h
   ·rename_i hu hd
    cases h;refine pP (f:=.cz) (hx 0 _ rfl) (Ii src dst el x an ag hu hd (l:=y.aH e (.li .u8)) ?_)
    rw[bJ hf,hid];simp only[ab.den,h9,ar.den,eR,ah,Option.map_some,bE.den];rfl
   ·cases h
  ·cases h
 rename_i I3
 split at h
 ·rename_i k af
  split at h
  ·rename_i ag hd
   cases h;exact pP (f:=.q0 k _) (hx 0 _ rfl) (O7 src dst x an (by rw[ag];rfl) hd ((bJ hf x).trans (jB af)))
  ·cases h
 ·rename_i af
  split at h
  ·rename_i el ag
   split at h
   ·rename_i hu hd
    cases h;refine pP (f:=.cz) (hx 0 _ rfl) (Ii src dst el x an ag hu hd (l:=(S.a6 N x).aH e (.li .u8)) ?_)
    rw[bJ hf,gJ af];rfl
   ·cases h
  ·cases h
 ·cases h
theorem zac{op:UnOp}{t:TypeId}{x:Operand}{r:dQ}(an:o.op= .unOp op t x)(h:IS S op (S.a6 N x)=some r):j7 P G N B M o S r:=fun e hf hx hn=>by
 unfold IS at h
 split at h
 ·rename_i af
  cases h;exact pP (f:=.nh) (hx 0 _ rfl) (OF t x an ((bJ hf x).trans (gJ af)))
 ·rename_i k af
  cases h;exact pP (f:=.y7 k) (hx 0 _ rfl) (OG t x an ((bJ hf x).trans (jB af)))
 ·rename_i k af
  cases h
  have fZ:aJ G (S.den G N B e) x=_:=(bJ hf x).trans (jB af)
  exact pP (f:=.tV k) (hx 0 _ rfl) fun _ aY w β ro h=>⟨_,by simp[execOp,an,h.ep fZ,Op.unary,Op.intBits,db.den,aM.jk],.fO rfl⟩
 ·cases h
theorem zad{t:TypeId}{ps:Array (Nat × Operand)}{r:dQ}(an:o.op= .build t ps)(h:IT P N S t ps.toList=some r):j7 P G N B M o S r:=fun e hf hx hn=>by
 unfold IT at h
 split at h
 ·rename_i pl zs pr bu
  split at h
  ·rename_i ae
   simp only[Bool.and_eq_true]at ae
   split at h
   ·rename_i ds hd
    cases h
    have aa:=CH (G:=G) (e:=e) ae.2 hd
    have ad:ab.bR G e (zs.map .cs)=zs.map fun z=>.au (.v z):=by rw[eG,List.map_map];rfl
    rw[ad]at aa
    have aq:(ps.toList.map fun p=>(p.1,aJ G (S.den G N B e) p.2))=(ps.toList.map fun p=>(p.1,S.a6 N p.2)).map fun p=>(p.1,p.2.den G e):=by
     rw[List.map_map];exact List.map_congr_left fun p _=>by simp[bJ hf]
    refine O0 t ps an pr bu ae.1 aq ?_ aa
    rw[List.all_map];refine List.all_eq_true.2 fun p ak=>?_
    have:=List.all_eq_true.1 ae.2 p ak
    simp only[Function.comp];rw[uJ this];exact wI this
   ·cases h
  ·cases h
 ·cases h
theorem zae{t:TypeId}{x:Operand}{f:Nat}{r:dQ}(an:o.op= .field t x f)(h:IU P t (S.a6 N x) f=some r):j7 P G N B M o S r:=fun e hf hx hn=>by
 unfold IU at h
 split at h
 ·rename_i l off ao ak
  split at h
  ·rename_i v av
   cases h;exact OV t x f an ak (by rw[bJ hf,ao];rfl) (CM av)
  ·cases h
 ·rename_i l off n ao ak
  split at h
  ·rename_i ae
   cases h
   have:=OW t x f an ak (s:=S.den G N B e) (G:=G) (cs:=ab.bR G e l) (by rw[bJ hf,ao];rfl) (by rw[nq];exact Nat.le_of_ble_eq_true ae)
   simp only[ab.den];rw[eG,List.map_take,List.map_drop,←eG];exact this
  ·cases h
 ·cases h
theorem zaf{b:Builtin}{x y:Operand}{ts:Array TypeId}{r:dQ}(an:o.op= .call {callee:=.builtin b,args:=#[x,y],argTypes:=ts})(h:IV S b (S.a6 N x) (S.a6 N y)=some r):j7 P G N B M o S r:=fun e hf hx hn=>by
 unfold IV at h
 split at h
 ·rename_i k br aa ad
  split at h
  ·rename_i aj
   cases h
   have aj:=of_decide_eq_true aj
   subst aj;exact pO (f:=.tX k) (hx 0 _ rfl) (O8 x y ts an ((bJ hf x).trans (jB aa)) ((bJ hf y).trans (jB ad)))
  ·cases h
 ·rename_i k br aa ad
  split at h
  ·rename_i aj
   cases h
   have aj:=of_decide_eq_true aj
   subst aj;exact pO (f:=.mx k) (hx 0 _ rfl) (O9 x y ts an ((bJ hf x).trans (jB aa)) ((bJ hf y).trans (jB ad)))
  ·cases h
 ·cases h
theorem zag{t:TypeId}(h:CJ P t=true): ∃jC i,P.underlying t=some (.pointer jC)∧P.info? jC=some i∧i.size≠0:=by
 unfold CJ at h
 split at h
 ·rename_i e hu
  cases hi:P.info? e with
  |none=>rw[hi]at h;cases h
  |some i=>
   rw[hi]at h;simp only[Option.isSome_some,Bool.true_and,Option.map_some]at h;refine⟨e,i,hu,hi,fun bu=>?_⟩
   rw[bu]at h;cases h
 ·cases h
theorem I4{id:Nat}{e:Env}(h:zn S id=true): ∃t cs,aF (S.den G N B e).heap id=some (.box t cs):=by
 unfold zn at h
 split at h
 ·rename_i t l ah
  exact⟨t,ab.bR G e l,by simp only[ar.den,eR,ah,Option.map_some,bE.den]⟩
 ·cases h
theorem Qf{s:aN}{b:Bool}{g:ab}{r:dQ}{e:Env}(h:CK S b g=some r)(hx: ∀(j:Nat) (x:bS),r.xs[j]? =some x→Env.at e (S.k+j)=x.den M e)(ag:cV P G o s (.au (.v (.bool (bif b then g.aH e .bool else !(g.aH e .bool)))))):cV P G o s (r.v.den G e):=by
 unfold CK at h
 split at h
 ·rename_i af
  cases h
  have:=gJ (G:=G) (e:=e) af
  show cV P G o s (g.den G e);rw[this];exact ag
 ·rename_i af
  cases h;exact pP (f:=.nh) (hx 0 _ rfl) ag
 ·cases h
theorem zah{tp jC:TypeId}{j:TypeInfo}(w:World)(a:Addr)(ak:P.underlying tp=some (.pointer jC))(zai:P.info? jC=some j):(Op.equal tp (.pointer (some a)) (.pointer (some a))).run P w= .ok true w:=by
 have h: ∀d:Nat,(Op.equalIn (d+1) tp (.pointer (some a)) (.pointer (some a))).run P w= .ok true w:=fun d=>by
  simp[Op.equalIn,run_underlying ak,sizeOf,typeInfo,zai,run_sameAddr_same]
 exact h 9999
theorem eq_nil{tp jC:TypeId}(w:World)(q:Option Addr)(ak:P.underlying tp=some (.pointer jC)):(Op.equal tp (.pointer none) (.pointer q)).run P w= .ok q.isNone w:=by
 have h: ∀d:Nat,(Op.equalIn (d+1) tp (.pointer none) (.pointer q)).run P w= .ok q.isNone w:=fun d=>by
  cases q<;>simp[Op.equalIn,run_underlying ak]
 exact h 9999
theorem CO{s:aN}{op:BinOp}{cl ty:TypeId}{x y:Operand}{b c:Bool}(an:o.op= .binOp op cl x y ty)(aG:CJ P cl=true)(ae:IW op=some b)
 (h: ∀E a w β ro,c9 E G s a w β ro→∃p q,a.eval x= .pointer p∧a.eval y= .pointer q∧((q=none∧c=p.isNone)∨(p=none∧c=q.isNone)∨(∃cS,p=some cS∧q=some cS∧c=true))):cV P G o s (.au (.v (.bool (bif b then c else !c)))):=
 fun E a w β ro af=>by
  obtain⟨jC,i,hu,hi,bK⟩:=zag aG;obtain⟨p,q,aa,ad,aq⟩:=h E a w β ro af;refine⟨.bool (bif b then c else !c),?_,.fO rfl⟩
  have zaj:P.underlying cl=some (.pointer (P.pointee cl)):=by rw[hu];simp[Program.pointee,hu]
  have heq:(Op.equal cl (.pointer p) (.pointer q)).run P w= .ok c w:=by
   rcases aq with⟨rfl,rfl⟩|⟨rfl,rfl⟩|⟨cS,rfl,rfl,rfl⟩
   ·exact run_equal_pointer_nil w cl p zaj
   ·exact eq_nil w q hu
   ·exact zah w cS hu hi
  unfold IW at ae
  split at ae
  ·cases ae
   have:(binOp .eql cl (.pointer p) (.pointer q)).run P w= .ok (.bool c) w:=by
    simp only[binOp];simp[heq]
   simp[execOp,an,aa,ad,eqGuard_at_pointer,this]
  ·cases ae
   have:(binOp .neq cl (.pointer p) (.pointer q)).run P w= .ok (.bool (!c)) w:=by
    simp only[binOp];simp[heq]
   simp[execOp,an,aa,ad,eqGuard_at_pointer,this]
  ·cases ae
theorem zp{E:Entry}{s:aN}{a:Act}{w:World}{β:Nat→Value}{ro:Nat→Prop}{x:Operand}(af:c9 E G s a w β ro)(hx:aJ G s x= .au (.v (.pointer none))):a.eval x= .pointer none:=af.ep hx
theorem uO{E:Entry}{s:aN}{a:Act}{w:World}{β:Nat→Value}{ro:Nat→Prop}{x:Operand}{id off:Nat}{t:TypeId}{cs:List aE}(af:c9 E G s a w β ro)(hx:aJ G s x= .ptr id off)(ah:aF s.heap id=some (.box t cs)):
 ∃b,β id= .pointer (some ⟨b,0,none⟩)∧a.eval x= .pointer (some ⟨b,off,none⟩):=by
 have h:=af.eval x
 rw[hx]at h
 generalize hc:a.eval x=c at h
 cases h with
 |ptr _ _ _ ao ak=>exact ak _ _ ah
theorem zak{op:BinOp}{cl ty:TypeId}{x y:Operand}{r:dQ}(an:o.op= .binOp op cl x y ty)(h:IX P S op cl (S.a6 N x) (S.a6 N y)=some r):j7 P G N B M o S r:=fun e hf hx hn=>by
 unfold IX at h
 split at h
 rotate_left
 ·cases h
 rename_i b aG ae
 split at h
 ·rename_i aa ad
  cases h
  have:=CO (G:=G) (s:=S.den G N B e) (c:=true) an aG ae fun E a w β ro af=>⟨none,none,zp af (by rw[bJ hf,aa];rfl),zp af (by rw[bJ hf,ad];rfl),.inl ⟨rfl,rfl⟩⟩
  cases b<;>exact this
 ·rename_i i q j gB aa ad
  split at h
  ·rename_i hc
   cases h;simp only[Bool.and_eq_true]at hc;obtain⟨⟨aw,ey⟩,gT⟩:=hc
   have aw:=Nat.eq_of_beq_eq_true aw
   have ey:=Nat.eq_of_beq_eq_true ey
   subst aw ey;obtain⟨bt,cs,ah⟩:=I4 (G:=G) (N:=N) (B:=B) (e:=e) gT
   have:=CO (G:=G) (s:=S.den G N B e) (c:=true) an aG ae fun E a w β ro af=>by
    obtain⟨eT,g1,g2⟩:=uO af (by rw[bJ hf,aa];rfl) ah
    obtain⟨gK,g3,g4⟩:=uO af (by rw[bJ hf,ad];rfl) ah
    rw[g1]at g3
    cases g3
    exact⟨_,_,g2,g4,.inr (.inr ⟨_,rfl,rfl,rfl⟩)⟩
   cases b<;>exact this
  ·cases h
 ·rename_i g i off aa ad
  split at h
  ·rename_i hc
   obtain⟨bt,cs,ah⟩:=I4 (G:=G) (N:=N) (B:=B) (e:=e) hc;refine Qf h hx ?_
   have:=CO (G:=G) (s:=S.den G N B e) (c:=!(g.aH e .bool)) an aG ae fun E a w β ro af=>by
    have Qg:a.eval y= .pointer none:=zp af (by rw[bJ hf,ad];rfl)
    have hd:aJ G (S.den G N B e) x=(ab.e4 g (some i) off).den G e:=by rw[bJ hf,aa]
    simp only[ab.den]at hd
    cases sA:g.aH e .bool with
    |true=>
     rw[sA]at hd;obtain⟨eT,g1,g2⟩:=uO af hd ah;exact⟨_,_,g2,Qg,.inl ⟨rfl,rfl⟩⟩
    |false=>
     rw[sA]at hd;exact⟨_,_,zp af hd,Qg,.inl ⟨rfl,rfl⟩⟩
   cases b<;>simpa using this
  ·cases h
 ·rename_i g i q j gB aa ad
  split at h
  ·rename_i hc
   simp only[Bool.and_eq_true]at hc;obtain⟨⟨aw,ey⟩,gT⟩:=hc
   have aw:=Nat.eq_of_beq_eq_true aw
   have ey:=Nat.eq_of_beq_eq_true ey
   subst aw ey;obtain⟨bt,cs,ah⟩:=I4 (G:=G) (N:=N) (B:=B) (e:=e) gT;refine Qf h hx ?_
   refine CO (G:=G) (s:=S.den G N B e) (c:=g.aH e .bool) an aG ae fun E a w β ro af=>?_
   obtain⟨gK,g3,g4⟩:=uO af (by rw[bJ hf,ad];rfl) ah
   have hd:aJ G (S.den G N B e) x=(ab.e4 g (some i) q).den G e:=by rw[bJ hf,aa]
   simp only[ab.den]at hd
   cases sA:g.aH e .bool with
   |true=>
    rw[sA]at hd;obtain⟨eT,g1,g2⟩:=uO af hd ah;rw[g1]at g3
    cases g3
    exact⟨_,_,g2,g4,.inr (.inr ⟨_,rfl,rfl,rfl⟩)⟩
   |false=>
    rw[sA]at hd;exact⟨_,_,zp af hd,g4,.inr (.inl ⟨rfl,rfl⟩)⟩
  ·cases h
 ·cases h
theorem Qh{E:Entry}{s:aN}{a:Act}{w:World}{β:Nat→Value}{ro:Nat→Prop}{id off b:Nat}{t:TypeId}{cs:List aE}(af:c9 E G s a w β ro)(ah:aF s.heap id=some (.box t cs))(ae:β id= .pointer (some ⟨b,0,none⟩))(ao:off<cs.length):
 ∃arr v,w.heap[b]? =some (.cells arr t (0,0))∧arr.size=cs.length∧w.cell? ⟨b,off,none⟩=some v:=by
 have du:=af.heap.c7 id _ ah
 cases du with
 |box _ _ b' arr aa ad aq aS=>
  rw[ae]at aa;simp only[Value.pointer.injEq,Option.some.injEq,Addr.mk.injEq,and_true]at aa;subst aa;refine⟨arr,arr[off]'(by omega),ad,aq,?_⟩
  have bB:off<arr.size:=by omega
  simp[World.cell?,ad,bB]
theorem zal{src dst:TypeId}{x:Operand}{r:dQ}(an:o.op= .convert src dst x)(h:IY P S src dst (S.a6 N x)=some r):j7 P G N B M o S r:=fun e hf hx hn=>by
 unfold IY at h
 split at h
 rotate_left
 ·cases h
 rename_i id off av
 have hd:aJ G (S.den G N B e) x= .ptr id off:=by rw[bJ hf,av];rfl
 split at h
 ·rename_i bt l t ah ag sf
  split at h
  ·rename_i bu bB
   cases h;rw[av]
   have aX:aF (S.den G N B e).heap id=some (.box bt (ab.bR G e l)):=by simp only[ar.den,eR,ah,Option.map_some,bE.den]
   intro E a w β ro af;obtain⟨b,ae,he⟩:=uO af hd aX;obtain⟨arr,v,_,_,hc⟩:=Qh (off:=off) af aX ae (by rw[nq];exact e2 bB)
   refine⟨.pointer (some ⟨b,off,none⟩),?_,by have:=af.eval x;rw[hd,he]at this;exact this⟩
   simp only[execOp,an,he,Sem.run_bind,run_convert_to_unsafe ag sf bu hc,Result.andThen_ok,Sem.run_pure]
  ·cases h
 ·rename_i bt l u ah ag sf
  split at h
  ·rename_i wM bB
   cases h;rw[av]
   have aX:aF (S.den G N B e).heap id=some (.box bt (ab.bR G e l)):=by simp only[ar.den,eR,ah,Option.map_some,bE.den]
   intro E a w β ro af;obtain⟨b,ae,he⟩:=uO af hd aX;obtain⟨arr,v,fk,bK,hc⟩:=Qh (off:=off) af aX ae (by rw[nq];exact e2 bB)
   refine⟨.pointer (some ⟨b,off,none⟩),?_,by have:=af.eval x;rw[hd,he]at this;exact this⟩
   rw[nq]at bK
   have Qi:w.shape? b=some (bt,l.length):=by simp[World.shape?,fk,bK]
   have zam:(convert src dst (.pointer (some ⟨b,off,none⟩))).run P w= .ok (.pointer (some ⟨b,off,none⟩)) w:=by
    rw[Bool.and_eq_true]at wM;obtain⟨i,hi⟩:=Option.isSome_iff_exists.1 wM.2
    have wM:=wM.1
    by_cases bu:i.size=0
    ·simp[convert,Conv.unsafePointer,Conv.seenAt,viewAt,variablesAt,sizeOf,typeInfo,run_underlying ag,run_underlying sf,hi,bu,Qi,wM,Result.andThen]
    ·simp[convert,Conv.unsafePointer,Conv.seenAt,viewAt,variablesAt,sizeOf,typeInfo,run_underlying ag,run_underlying sf,hi,bu,Qi,wM,Result.andThen]
   simp only[execOp,an,he,Sem.run_bind,zam,Result.andThen_ok,Sem.run_pure]
  ·cases h
 ·cases h
theorem uP{r:dQ}(h:pR P N S o=some r):j7 P G N B M o S r:=by
 unfold pR at h
 split at h
 ·rename_i x an
  cases h;exact .nil fun e hf=>by have:=N7 (P:=P) (G:=G) (s:=S.den G N B e) x an;rw[bJ hf]at this;exact this
 ·rename_i x an
  cases h;exact .nil fun e hf=>by have:=N8 (P:=P) (G:=G) (s:=S.den G N B e) x an;rw[bJ hf]at this;exact this
 ·exact Z1 (by assumption) h
 ·rename_i x i an
  split at h
  ·rename_i l ao
   split at h
   ·rename_i v av
    cases h;exact .nil fun e hf=>OH x i an (by rw[bJ hf,ao];rfl) (CM av)
   ·cases h
  ·cases h
 ·rename_i x an
  split at h
  ·rename_i ak
   cases h
   exact .nil fun e hf=>by
    have:=Od (P:=P) (G:=G) (s:=S.den G N B e) x an (by rw[bJ hf];exact uK ak)
    rw[bJ hf]at this;exact this
  ·cases h
 ·rename_i t x f an
  split at h
  ·rename_i k aj ak
   split at h
   ·rename_i p ag
    cases h
    exact .nil fun e hf=>by
     have:=Oc (P:=P) (G:=G) (s:=S.den G N B e) t x f an aj (by rw[bJ hf];exact uK ak)
     rw[bJ hf,zm ag]at this;exact this
   ·cases h
  ·cases h
 ·exact Z8 (by assumption) h
 ·exact zae (by assumption) h
 ·exact Z7 (by assumption) h
 ·exact Z2 (by assumption) h
 ·split at h
  ·rename_i aL
   cases h;exact ZZ (by assumption) aL
  ·exact zak (by assumption) h
 ·exact zac (by assumption) h
 ·split at h
  ·rename_i aL
   cases h;exact zab (by assumption) aL
  ·exact zal (by assumption) h
 ·exact zad (by assumption) h
 ·rename_i f p q an
  cases h
  exact .nil fun e hf=>by
   have:=YO (P:=P) (G:=G) (s:=S.den G N B e) an
   simp only[ab.den];rw[eG,eG,List.map_map,List.map_map]
   have aa: ∀l:List Operand,l.map (aJ G (S.den G N B e))=l.map (ab.den G e∘S.a6 N):=fun l=>List.map_congr_left fun x _=>bJ hf x
   rw[aa,aa]at this;exact this
 ·exact zaa (by assumption) h
 ·rename_i c an
  split at h
  ·rename_i x t hc hx aG
   obtain⟨callee,args,ts⟩:=c;simp only at hc hx aG;rw[hc,PB hx,PB aG]at an;exact Z9 an h
  ·rename_i b x y hc hx
   obtain⟨callee,args,ts⟩:=c;simp only at hc hx;rw[hc,yY hx]at an;exact zaf an h
  ·rename_i f hc
   obtain⟨callee,args,ts⟩:=c;simp only at hc;rw[hc]at an;exact Z6 an rfl h
  ·cases h
 ·cases h
end
end Go.aM
namespace Go.aM
open Go
def CP:en→en→Prop
 | .box _ _,.box _ _=>True
 | .row _ _ n _,.row _ _ m _=>n=m
 | .b1 _,.b1 _=>True
 |_,_=>False
section
variable {w w':World} {ro ro':Nat→Prop} {σ ff:bA} {β dV:Nat→Value} {N oq:Nat}
theorem bs.move{x:aE}{c:Value}(h:bs w ro σ β N x c)(hw: ∀b,ro b→w'.heap[b]? =w.heap[b]?)(cc: ∀b,ro b→ro' b)(hg:N≤oq)
 (aj: ∀id o,id<N→aF ff id=some o→dV id=β id∧∃cm,aF σ id=some cm∧CP cm o):bs w' ro' ff dV oq x c:=by
 induction h with
 |au x c hx=>exact .au x c (hx.keep hw cc)
 |agg cs c ag _ aR=>exact .agg cs c ag aR
 |tuple cs c ag _ aR=>exact .tuple cs c ag aR
 |ptr id off c ao ak=>
  refine .ptr id off c (by omega) fun t cs ah=>?_
  obtain⟨ae,cm,dR,ag⟩:=aj id _ ao ah
  cases cm with
  |box bw cs'=>
   obtain⟨b,aa,ad⟩:=ak bw cs' dR;exact⟨b,ae.trans aa,ad⟩
  |_=>exact ag.elim
 |dF id off c ao ak=>
  refine .dF id off c (by omega) fun t cs ah=>?_
  obtain⟨ae,cm,dR,ag⟩:=aj id _ ao ah
  cases cm with
  |box bw cs'=>
   obtain⟨b,aa,ad⟩:=ak bw cs' dR;exact⟨b,ae.trans aa,ad⟩
  |_=>exact ag.elim
 |cH id i off c ao ak=>
  refine .cH id i off c (by omega) fun z t n es ah=>?_
  obtain⟨ae,cm,dR,ag⟩:=aj id _ ao ah
  cases cm with
  |row h6 bw cR ez=>
   have ag:cR=n:=ag
   subst ag;obtain⟨b,l,iu,aa,ad⟩:=ak h6 bw cR ez dR;exact⟨b,l,iu,ae.trans aa,ad⟩
  |_=>exact ag.elim
 |aP id c ao ak=>
  refine .aP id c (by omega) fun z t n es ah=>?_
  obtain⟨ae,cm,dR,ag⟩:=aj id _ ao ah
  cases cm with
  |row h6 bw cR ez=>rw[ae];exact ak h6 bw cR ez dR
  |_=>exact ag.elim
 |fn f p q c d aa ad _ _ gO gP=>exact .fn f p q c d aa ad gO gP
 |ref id c ao ak=>
  refine .ref id c (by omega) fun bF ah=>?_
  obtain⟨ae,cm,dR,ag⟩:=aj id _ ao ah
  cases cm with
  |b1 lC=>rw[ae];exact ak lC dR
  |_=>exact ag.elim
 |top c=>exact .top c
end
section
variable {P:Program} {G:a7} {s:aN} {E:Entry} {a:Act} {w w':World} {β:Nat→Value} {ro:Nat→Prop}
variable {o:Oper}
theorem Qj{x:Operand}{xs:Array Operand}{f:Fn}{p q:List aE}{c d:Array Value}(h:c9 E G s a w β ro)(aa:c.size=p.length)(ad:d.size=q.length)(ln: ∀(j:Nat) (x:aE),p[j]? =some x→bs w ro s.heap β s.next x (c.getD j undef))(zq: ∀(j:Nat) (x:aE),q[j]? =some x→bs w ro s.heap β s.next x (d.getD j undef)):
 ∀(i:Nat) (y:aE),(p++xs.toList.map (aJ G s)++q)[i]? =some y→bs w ro s.heap β s.next y ((c++xs.map a.eval++d).getD i undef):=fun i y az=>by
 rw[Array.getD_eq_getD_getElem?]
 rcases Nat.lt_or_ge i (p.length+xs.size)with hi|hi
 ·rw[List.getElem?_append_left (by simpa using hi)]at az
  rw[Array.getElem?_append_left (by simpa[aa]using hi)]
  rcases Nat.lt_or_ge i p.length with iK|iK
  ·rw[List.getElem?_append_left iK]at az
   rw[Array.getElem?_append_left (by omega),←Array.getD_eq_getD_getElem?]
   exact ln i y az
  ·rw[List.getElem?_append_right iK,List.getElem?_map]at az
   rw[Array.getElem?_append_right (by omega),aa]
   cases bu:xs.toList[i-p.length]? with
   |none=>simp[bu]at az
   |some z=>
    simp only[bu,Option.map_some,Option.some.injEq]at az;subst az
    have ux:xs[i-p.length]? =some z:=by simpa using bu
    simp only[Array.getElem?_map,ux,Option.map_some,Option.getD_some]
    exact h.eval z
 ·rw[List.getElem?_append_right (by simpa using hi)]at az
  rw[Array.getElem?_append_right (by simpa[aa]using hi),←Array.getD_eq_getD_getElem?]
  have:=zq _ y az
  simpa[aa]using this
theorem zan{x:Operand}{xs:Array Operand}{ts:Array TypeId}(an:o.op= .call {callee:=.value x,args:=xs,argTypes:=ts}){f:FuncId}{p q:List aE}(hx:aJ G s x= .fn (.func f) p q)(gl:nb P f=true)
 {R:aE→bA→Prop}(hc:dO P G f (p++xs.toList.map (aJ G s)++q) s.heap s.next R){bm:aN→Prop}
 (gG: ∀r bQ,R r bQ→∃m,s.next≤m∧gk m r=true∧k8 m bQ=true∧(∀id o,id<s.next→aF bQ id=some o→∃cm,aF s.heap id=some cm∧CP cm o)∧bm (aN.put ⟨s.cE,bQ,m,s.base⟩ o.dst r)):
 ∀(E:Entry) (a:Act) (w:World),Rel E G s a w→∀(K:Act→World→Prop) (Q:Exit→Act→World→Prop),(∀t,bm t→∀aY w',Rel E G t aY w'→K aY w')→o.wp P a w K Q:=by
 intro E a w ⟨β,ro,h⟩ K Q hK
 have jv:=h.eval x
 rw[hx]at jv
 generalize he:a.eval x=B4 at jv
 cases jv with
 |fn _ _ _ c d aa ad ln zq=>
  unfold Oper.wp;simp only[execOp,an,resolve,he,Deferred.ofValue,Sem.run_bind,Sem.run_pure,Result.andThen_ok,invoke];rw[B2 gl]
  have gR:=hc w β ro (c++xs.map a.eval++d) (by simp[aa,ad,Nat.add_assoc]) (Qj (x:=x) (f:=.func f) h aa ad ln zq) h.heap h.hV h.trans.new
  refine Calls.mono gR fun e w' aL=>?_
  obtain⟨v,r,bQ,dV,ro',cR,rfl,af,dp,ht,ct⟩:=aL;obtain⟨m,hm,zao,Qk,yr,e8⟩:=gG r bQ af
  have hw: ∀b,ro b→w'.heap[b]? =w.heap[b]? :=fun b ae=>ct.frame b (h.heap.lt b ae) (h.heap.fz b ae)
  have cc: ∀b,ro b→ro' b:=ct.jR
  have aj: ∀id o,id<s.next→aF bQ id=some o→dV id=β id∧∃cm,aF s.heap id=some cm∧CP cm o:=fun id o bB ah=>⟨(ct.dK id bB o ah).2,yr id o bB ah⟩
  have gi:c9 E G ⟨s.cE,bQ,m,s.base⟩ a w' dV ro':=by
   refine⟨h.defers,h.size,fun i x hx=>(h.slot i x hx).move hw cc hm aj,⟨fun id o ah=>?_,ht.inj,ht.fz,ht.lt⟩,h.hV.keep hw cc,?_,h.base⟩
   ·obtain⟨_,yE⟩:=qS Qk ah
    cases ht.c7 id o ah with
    |box t cs b arr aA aW cr eD=>exact .box t cs b arr aA aW cr fun j x ai=>(eD j x ai).lower (qR (yE t cs rfl) ai)
    |row t n es xs aA aW cr=>exact .row t n es xs aA aW cr
    |fV t n es aA=>exact .fV t n es aA
    |b1 bF b o aA aW cr=>exact .b1 bF b o aA aW cr
   ·have t:=h.trans
    refine⟨ct.os.trans t.os,ct.tape.trans t.tape,ct.output.trans t.output,Nat.le_trans t.size ct.size,fun b ae hn=>?_,fun b ae=>?_,fun b ae=>cc b (t.jR b ae),fun b ae=>?_,fun id bB o ah=>?_,fun id o ah=>(qS Qk ah).1,Nat.le_trans t.le hm⟩
    ·rw[←t.frame b ae hn]
     refine ct.frame b (Nat.lt_of_lt_of_le ae t.size) fun jt=>?_
     rcases t.gN b jt with q|q
     ·exact hn q
     ·omega
    ·rcases ct.iR b ae with q|q|q
     ·exact t.iR b q
     ·rcases t.gN b q with q|q
      ·exact .inr (.inl q)
      ·exact .inr (.inr q)
     ·exact .inr (.inr (Nat.le_trans t.size q))
    ·rcases ct.gN b ae with q|q
     ·exact t.gN b q
     ·exact .inr (Nat.le_trans t.size q)
    ·have Hw:id<s.next:=Nat.lt_of_lt_of_le bB t.le
     obtain⟨aa,ad⟩:=aj id o Hw ah;obtain⟨cm,aq,_⟩:=ad;obtain⟨dk,dy⟩:=t.dK id bB cm aq;exact⟨dk,aa.trans dy⟩
  exact hK _ e8 _ _ ⟨dV,ro',gi.put o.dst r v (dp.lower zao)⟩
end
end Go.aM
namespace Go.aM
open Go
inductive uQ:en→en→Prop where
 |same (o:en):uQ o o
 |box (t:TypeId) {cs ds:List aE}:fX cs ds→uQ (.box t cs) (.box t ds)
 |row (t:TypeId) (n:Nat) {es fs:List (List bh)}:es.length=fs.length→(∀e∈fs,e.length=n)→fW es.flatten fs.flatten→uQ (.row false t n es) (.row false t n fs)
def pS(s t:aN):Prop:=∀E (G:a7) a w β ro,c9 E G s a w β ro→c9 E G t a w β ro
theorem pS.le{s t:aN}(h:pS s t):cO s t:=fun E G a w ⟨β,ro,af⟩=>⟨β,ro,h E G a w β ro af⟩
theorem pS.of{s t:aN}(ae:t.base=s.base)(hn:s.next≤t.next)(ao:t.cE.length=s.cE.length)(ag: ∀(i:Nat) (v:aE),t.cE[i]? =some v→∃u,s.cE[i]? =some u∧Sub u v)
 (aX: ∀(id:Nat) (o:en),aF t.heap id=some o→∃cm,aF s.heap id=some cm∧uQ cm o):pS s t:=by
 intro E G a w β ro h
 have nK: ∀id ty cs,aF t.heap id=some (.box ty cs)→β id=β id∧∃ty cs,aF s.heap id=some (.box ty cs):=fun id ty cs ah=>by
  obtain⟨cm,aa,ad⟩:=aX id _ ah
  cases ad with
  |same=>exact⟨rfl,ty,cs,aa⟩
  |box _ h=>exact⟨rfl,_,_,aa⟩
 have dL: ∀id z ty n es,aF t.heap id=some (.row z ty n es)→β id=β id∧∃z ty es,aF s.heap id=some (.row z ty n es):=fun id z ty n es ah=>by
  obtain⟨cm,aa,ad⟩:=aX id _ ah
  cases ad with
  |same=>exact⟨rfl,z,ty,es,aa⟩
  |row _ _=>exact⟨rfl,_,_,_,aa⟩
 have nL: ∀id bF,aF t.heap id=some (.b1 bF)→β id=β id∧∃bF,aF s.heap id=some (.b1 bF):=fun id bF ah=>by
  obtain⟨cm,aa,ad⟩:=aX id _ ah
  cases ad with
  |same=>exact⟨rfl,bF,aa⟩
 have hex: ∀id o,aF t.heap id=some o→∃cm,aF s.heap id=some cm∧cm.live=o.live:=fun id o ah=>by
  obtain⟨cm,aa,ad⟩:=aX id o ah
  cases ad<;>exact⟨_,aa,rfl⟩
 have own: ∀b,Own t.heap β b→Own s.heap β b:=fun b ⟨id,o,ah,H4,bc⟩=>by
  obtain⟨cm,aa,ad⟩:=hex id o ah;exact⟨id,cm,aa,by rw[ad];exact H4,bc⟩
 refine⟨h.defers,by rw[ao];exact h.size,fun i x hx=>?_,⟨fun id o ah=>?_,fun id gM o cm b aa ad aq aS bC cC=>?_,fun b ae an=>h.heap.fz b ae (own b an),h.heap.lt⟩,h.hV,?_,by rw[ae];exact h.base⟩
 ·obtain⟨u,hu,gj⟩:=ag i x hx
  exact(gj _ _ _ _ _ _ (h.slot i u hu)).keep (fun _ _=>rfl) (fun _ h=>h) hn nK dL nL
 ·obtain⟨cm,aa,zap⟩:=aX id o ah
  have du:=(h.heap.c7 id cm aa).keep (fun _ _=>rfl) (fun _ h=>h) hn (Nat.le_refl _) rfl (fun _ _ _=>rfl) nK dL nL
  cases zap with
  |same=>exact du
  |box ty gj=>
   cases du with
   |box _ _ b arr aA aW cr eD=>
    refine .box ty _ b arr aA aW (by rw[cr,gj.at.1]) fun j x ai=>?_
    obtain⟨u,hu,I5⟩:=gj.at.2 j x ai;exact I5 _ _ _ _ _ _ (eD j u hu)
  |row ty n ao hn gj=>
   cases du with
   |row _ _ _ xs aA aW cr=>
    refine .row ty n _ xs (by rw[←ao];exact aA) hn fun j x ai=>?_
    obtain⟨u,hu,I5⟩:=gj.at.2 j x ai;exact I5 _ _ _ (cr j u hu)
 ·obtain⟨p,g1,g2⟩:=hex id o aa
  obtain⟨fL,g3,g4⟩:=hex gM cm ad;exact h.heap.inj id gM p fL b g1 g3 (by rw[g2];exact aq) (by rw[g4];exact aS) bC cC
 ·have oU:=h.trans
  refine⟨oU.os,oU.tape,oU.output,oU.size,oU.frame,oU.iR,oU.jR,fun b ae=>oU.gN b (own b ae),fun id hi o ah=>?_,fun id o ah=>?_,Nat.le_trans oU.le hn⟩
  ·obtain⟨p,g1,_⟩:=hex id o ah
   exact oU.dK id hi p g1
  ·obtain⟨p,g1,_⟩:=hex id o ah
   exact Nat.lt_of_lt_of_le (oU.new id p g1) hn
theorem cO.of{s t:aN}(ae:t.base=s.base)(hn:s.next≤t.next)(ao:t.cE.length=s.cE.length)(ag: ∀(i:Nat) (v:aE),t.cE[i]? =some v→∃u,s.cE[i]? =some u∧Sub u v)
 (aX: ∀(id:Nat) (o:en),aF t.heap id=some o→∃cm,aF s.heap id=some cm∧uQ cm o):cO s t:=(pS.of ae hn ao ag aX).le
theorem pS.put{s t:aN}{i:Nat}{x:bh}(h:pS s t)(ag:s.cE[i]? =some (.au x)):pS s (t.put (some i) (.au x)):=by
 intro E G a w β ro af
 have aG:=h E G a w β ro af
 refine⟨aG.defers,by simp only[aN.put,List.length_set];exact aG.size,fun j y az=>?_,aG.heap,aG.hV,aG.trans,aG.base⟩
 simp only[aN.put,List.getElem?_set]at az
 split at az
 ·rename_i e
  subst e
  split at az
  ·cases az
   cases af.slot i (.au x) ag with
   |au _ _ av=>exact .au _ _ av
  ·cases az
 ·exact aG.slot j y az
section
variable {P:Program} {G:a7}
theorem eh.wN{o:Oper}{s t bw:aN}(h:eh P G o s t)(ao:cO t bw):eh P G o s bw:=
 fun E a w af K Q hK=>h E a w af K Q fun aY w' dW=>hK aY w' (ao E G aY w' dW)
theorem Ql{s:aN}{dst:Option Nat}{v bx:aE}(h:Sub v bx):cO (s.put dst v) (s.put dst bx):=by
 cases dst with
 |none=>exact cO.refl _
 |some d=>
  refine cO.of rfl (Nat.le_refl _) (by simp[aN.put]) (fun i u hu=>?_) (fun id o an=>⟨o,an,.same o⟩)
  simp only[aN.put,List.getElem?_set]at hu⊢
  split at hu
  ·rename_i e
   rw[if_pos e]
   split at hu
   ·rename_i bB
    cases hu;rw[if_pos bB];exact⟨_,rfl,h⟩
   ·cases hu
  ·rename_i e
   rw[if_neg e];exact⟨u,hu,Sub.refl _⟩
theorem Qm{s:aN}{h':bA}{dst:Option Nat}{v:aE}(aX: ∀id o,aF h' id=some o→∃cm,aF s.heap id=some cm∧uQ cm o):cO (s.put dst v) (aN.put {s with heap:=h'} dst v):=by
 cases dst with
 |none=>exact cO.of rfl (Nat.le_refl _) rfl (fun i u hu=>⟨u,hu,Sub.refl _⟩) aX
 |some d=>exact cO.of rfl (Nat.le_refl _) rfl (fun i u hu=>⟨u,hu,Sub.refl _⟩) aX
theorem I6: ∀{l m:List bh},fX (l.map .au) (m.map .au)→fW l m
 |[],[],_=>.nil
 |[],_::_,h=>by cases h
 |_::_,[],h=>by cases h
 |x::l,y::m,h=>by
  cases h with
  |cons aa ad=>
   refine .cons (fun w ro c hc=>?_) (I6 ad)
   have:=aa w ro [] (fun _=>undef) 0 c (.au x c hc)
   cases this with
   |au _ _ h=>exact h
theorem fW.refl: ∀(l:List bh),fW l l
 |[]=>.nil
 |x::r=>.cons (mj.refl x) (fW.refl r)
theorem fW.append{a b c d:List bh}(h:fW a b)(k:fW c d):fW (a++c) (b++d):=by
 induction h with
 |nil=>exact k
 |cons h _ aR=>exact .cons h aR
end
section
variable {P:Program} {G:a7} {s:aN}
theorem zaq{o:Oper}(t:TypeId)(len:Nat)(parts:Array (Nat × Operand))(an:o.op= .buildSlice t len parts){e n:Nat}(hu:P.underlying t=some (.slice e))(bK:(P.info? e).map (·.size)=some n)
 {zs:List Value}(bu:zeroCells P e=some zs)(r7:zs.all Value.oneCell'=true)(mg:zs.length=n)(hlen:0<len*n∧len*n≤16777216)
 {ps:List (Nat × aE)}(qV:parts.toList.map (fun p=>(p.1,aJ G s p.2))=ps)(dU:ps.all (fun p=>(cA p.2).all (eo s.heap))=true)
 {ds:List aE}(hf:jW (fun i=>some (i*n,n)) ((List.replicate len (zs.map fun z=>aE.au (.v z))).flatten) ps=some ds)(ae:s.base≤s.next):
 eh P G o s ({s with heap:=(s.next,.box e ds)::s.heap,next:=s.next+1}.put o.dst (.dF s.next len)):=by
 have nd:ds.length=len*n:=by
  have: ∀(ps:List (Nat × aE)) (cs ds:List aE),jW (fun i=>some (i*n,n)) cs ps=some ds→ds.length=cs.length:=by
   intro ps
   induction ps with
   |nil=>intro cs ds h;simp[jW]at h;rw[h]
   |cons p r aR=>
    intro cs ds h;obtain⟨i,v⟩:=p;simp only[jW]at h
    split at h
    ·rename_i hc
     rw[aR _ _ h,px _ _ _ (by omega)]
    ·cases h
  rw[this ps _ _ hf,jS (n:=n) (fun e he=>by rw[List.mem_replicate]at he;rw[he.2];simpa using mg)]
  simp
 intro E a w ⟨β,ro,af⟩ K Q hK
 obtain⟨aa,ad⟩:=HJ af qV dU
 obtain⟨z,mc,oz,_⟩:=yv bu w
 have fk:(List.replicate len (zs.map fun z=>aE.au (.v z))).flatten.length=len*n:=by
  rw[jS (n:=n) (fun e he=>by rw[List.mem_replicate]at he;rw[he.2];simpa using mg)];simp
 have Yl:zs.toArray.size=n:=by simpa using mg
 have qX:0<n:=by
  rcases Nat.eq_zero_or_pos n with h|h
  ·rw[h]at hlen;simp at hlen
  ·exact h
 obtain⟨ys,g1,g2,g3⟩:=B7 (place':=fun i=>some (i*n,n)) (fun _ _ h=>h) af.heap hf aa ad (xs:=(Array.range (len*n)).map fun x=>zs.toArray[x%zs.toArray.size]!) (by rw[fk];simp) (fun j x ai=>by
  have dT:j<len*n:=by rw[←fk];exact(List.getElem?_eq_some_iff.1 ai).1
  have hm:j=(j/ n)*n+j%n:=by rw[Nat.mul_comm];exact(Nat.div_add_mod j n).symm
  have nQ:j%n<n:=Nat.mod_lt _ qX
  have nR:j/ n<len:=by rw[Nat.div_lt_iff_lt_mul qX];exact dT
  rw[hm,qH (n:=n) (fun e he=>by rw[List.mem_replicate]at he;rw[he.2];simpa using mg) (i:=j/ n) (e:=zs.map fun z=>aE.au (.v z)) (by simp[nR]) (j%n) nQ]at ai
  have:=HI (w:=w) (ro:=ro) (σ:=s.heap) (β:=β) (N:=s.next) r7 (j%n) x ai
  have aA:(Array.map (fun x=>zs.toArray[x%zs.toArray.size]!) (Array.range (len*n))).getD j undef=zs.toArray.getD (j%n) undef:=by
   have aq:j%n<zs.length:=by omega
   simp[dT,mg,List.getElem?_eq_getElem aq]
  rw[aA]
  exact this)
 have cU:(execOp a.eval o).run P w= .ok (.value (.slice (some ⟨w.heap.size,0,none⟩) len len)) (w.alloc (.cells ys e)):=by
  have yJ:(sizeOf e).run P w= .ok n w:=by
   cases hi:P.info? e with
   |none=>simp[hi]at bK
   |some i=>simp[hi]at bK;simp[sizeOf,typeInfo,hi,bK]
  have cb: ¬len*n>2^24:=by omega
  have kF: ¬len*n=0:=by omega
  simp only[execOp,an,Sem.run_bind,Instr.buildSlice,run_underlying hu,Result.andThen_ok,yJ,if_neg cb,if_neg kF,mc,Sem.run_pure,oz]
  erw [g1]
  simp[newRow]
 have k6:aF s.heap s.next=none:=by
  cases ah:aF s.heap s.next with
  |none=>rfl
  |some p=>have:=af.trans.new _ _ ah;omega
 have up: ∀(x:aE) (c:Value),bs w ro s.heap β s.next x c→bs (w.alloc (.cells ys e)) ro ((s.next,.box e ds)::s.heap) (hq β s.next (.pointer (some ⟨w.heap.size,0,none⟩))) (s.next+1) x c:=fun x c hx=>
  hx.move (fun b ae=>(Go.RowKit.Below.heap_alloc w _ b (af.heap.lt b ae))) (fun _ h=>h) (Nat.le_succ _) fun id o bB ah=>by
   have cb: ¬s.next=id:=by omega
   simp only[aF,if_neg cb]at ah;refine⟨cL _ _ (fun aX=>cb aX.symm),o,ah,?_⟩
   cases o with
   |box=>trivial
   |row=>rfl
   |b1=>trivial
 have gi:=af.new (w':=w.alloc (.cells ys e)) s.next k6 ae (Nat.le_refl _) (.box e ds) (.pointer (some ⟨w.heap.size,0,none⟩)) rfl rfl rfl (by simp) (fun b ae=>Go.RowKit.Below.heap_alloc w _ b ae) (fun b ae=>by simp[cf]at ae;omega) rfl
  (.box e ds w.heap.size ys (by rw[eA]) (heap_alloc_new w _) g2 fun j x ai=>up _ _ (g3 j x ai))
 unfold Oper.wp
 rw[cU]
 exact hK _ _ ⟨_,ro,gi.put o.dst (.dF s.next len) (.slice (some ⟨w.heap.size,0,none⟩) len len) (.dF _ _ _ (Nat.lt_succ_self _) fun t cs _=>⟨_,eA _ _ _,rfl⟩)⟩
end
def ab.zr:ab→Bool
 | .bl _ _=>true
 | .fd _ _ _ _=>true
 | .cs _=>true
 | .ip _ _ _=>true
 |_=>false
theorem CQ{G:a7}{e:Env}: ∀{l:List ab},l.all ab.zr=true→∃vs,iw (ab.bR G e l)=some vs∧ab.bR G e l=vs.map .au
 |[],_=>⟨[],rfl,rfl⟩
 |x::r,h=>by
  simp only[List.all_cons,Bool.and_eq_true]at h;obtain⟨vs,aa,ad⟩:=CQ (G:=G) (e:=e) h.2
  have: ∃y,x.den G e= .au y:=by
   cases x<;>first|exact⟨_,rfl⟩|(simp[ab.zr]at h)
  obtain⟨y,az⟩:=this;refine⟨y::vs,?_,?_⟩
  ·simp only[ab.bR,az,iw,aa]
  ·simp only[ab.bR,az,ad,List.map_cons]
mutual
def ab.kill(id:Nat):ab→ab
 | .cF l=>.cF (ab.ej id l)
 | .tp l=>.tp (ab.ej id l)
 | .dD k o=>match decide (k=id)with
  |true=>.top
  |false=>.dD k o
 | .gy k x o=>match decide (k=id)with
  |true=>.top
  |false=>.gy k x o
 | .gF k o x n=>match decide (k=id)with
  |true=>.top
  |false=>.gF k o x n
 | .aP k=>match decide (k=id)with
  |true=>.top
  |false=>.aP k
 | .cz k n=>match decide (k=id)with
  |true=>.top
  |false=>.cz k n
 | .e4 g (some k) o=>match decide (k=id)with
  |true=>.e4 g none o
  |false=>.e4 g (some k) o
 | .fn f a b=>.fn f (ab.ej id a) (ab.ej id b)
 | .iX k=>match decide (k=id)with
  |true=>.top
  |false=>.iX k
 | .fr g b x=>.fr g b (ab.kill id x)
 |x=>x
def ab.ej(id:Nat):List ab→List ab
 |[]=>[]
 |x::r=>ab.kill id x::ab.ej id r
end
def bb.map{α:Type}(f:α→α):bb α→bb α
 | .emp=>.emp
 | .n v l r=>.n (match v with|some x=>some (f x)|none=>none) (l.map f) (r.map f)
theorem bb.get_map{α:Type}(f:α→α): ∀(t:bb α) (k:Nat),(t.map f).get k=(t.get k).map f
 | .emp,_=>rfl
 | .n v l r,k=>by
  simp only[bb.map,bb.get]
  split
  ·cases v<;>rfl
  ·split
   ·exact bb.get_map f l _
   ·exact bb.get_map f r _
structure dx where
 xs:List bS
 ns:List fK
 O6:Option Nat
 h:List (Nat × bE)
 n:Nat
 v:ab
def dx.l(r:dx)(l:bb ab):bb ab:=
 match r.O6 with
 |none=>l
 |some id=>l.map (ab.kill id)
def dx.st(r:dx)(S:ar)(dst:Option Nat):ar:=({S with l:=r.l S.l,h:=r.h,n:=r.n}:ar).put dst r.v
def oV(P:Program)(G:a7)(N B:Nat)(M:List a1)(o:Oper)(S:ar)(r:dx):Prop:=
 ∀e,(∀c∈S.g,c.ok e)→(∀(j:Nat) (x:bS),r.xs[j]? =some x→Env.at e (S.k+j)=x.den M e)→(∀n∈r.ns,n.ok M e)→eh P G o (S.den G N B e) ((r.st S o.dst).den G N B e)
def I7(P:Program)(B:Nat)(S:ar)(t:TypeId):Option dx:=
 match zeroCells P t with
 |some zs=>match zs.all Value.oneCell'&&Nat.ble B S.n with
  |true=>some ⟨[],[],none,(S.n,.dc t (zs.map .cs))::S.h,S.n+1,.dD S.n 0⟩
  |false=>none
 |none=>none
def I8(B:Nat)(S:ar)(t:TypeId)(x:ab):Option dx:=
 match x.cells.all (kK S.h)&&Nat.ble B S.n with
 |true=>some ⟨[],[],none,(S.n,.dc t x.cells)::S.h,S.n+1,.dD S.n 0⟩
 |false=>none
def I9(P:Program)(S:ar)(t:TypeId)(p x:ab):Option dx:=
 match p with
 | .dD id off=>match dq S.h id,(P.info? t).map (·.size)with
  |some (.dc bt l),some n=>match x.cells.all (kK S.h)&&(Nat.beq n x.cells.length&&Nat.ble (off+n) l.length)with
   |true=>some ⟨[],[],none,kI S.h id (.dc bt (ea l off x.cells)),S.n,.top⟩
   |false=>none
  |_,_=>none
 | .gy id i off=>match dq S.h id,(P.info? t).map (·.size),i.rt with
  |some (.rw bt c y),some n,some (.int k)=>match x.cells.all ab.zr&&((x.cells.all (kK S.h)&&y.fF (.li c))&&(Nat.beq n x.cells.length&&(Nat.ble (off+n) (c8 c)&&hJ (fo c) (ea (iY c S.k 0 (fo c)) off x.cells))))with
   |true=>some ⟨[.f2 (.j3 c k) y i,.up c y i (.cF (ea (iY c S.k 0 (fo c)) off x.cells))],oT S.g (.iC c) (.j3 c k) y i,
    none,kI S.h id (.rw bt c (.bl (.li c) (S.k+1))),S.n,.top⟩
   |false=>none
  |_,_,_=>none
 |_=>none
section
variable {P:Program} {G:a7} {o:Oper} {N B:Nat} {S:ar} {M:List a1}
theorem zar{t:TypeId}{r:dx}(an:o.op= .alloc t)(h:I7 P B S t=some r):oV P G N B M o S r:=fun e hf hx hn=>by
 unfold I7 at h
 split at h
 ·rename_i zs bu
  split at h
  ·rename_i ae
   cases h;simp only[Bool.and_eq_true]at ae
   have:=Ok (G:=G) (s:=S.den G N B e) t an (Nat.le_of_ble_eq_true ae.2) bu ae.1
   rw[dx.st,fC];simp only[ar.den,cM,bE.den,ab.den,dx.l]at this⊢;rw[eG,List.map_map];exact this
  ·cases h
 ·cases h
theorem zas{t:TypeId}{x:Operand}{r:dx}(an:o.op= .box t x)(h:I8 B S t (S.a6 N x)=some r):oV P G N B M o S r:=fun e hf hx hn=>by
 unfold I8 at h
 split at h
 ·rename_i ae
  cases h;simp only[Bool.and_eq_true]at ae
  have av:=uJ (G:=G) (e:=e) ae.1
  have:=Oi (P:=P) (G:=G) (s:=S.den G N B e) t x an (Nat.le_of_ble_eq_true ae.2) (by rw[bJ hf,av];exact wI ae.1)
  rw[bJ hf,av]at this;rw[dx.st,fC];exact this
 ·cases h
theorem zat{c:bO}{l:List (gh c)}{j:Nat}{lY aA:gh c}{vs:List bh}(aU:l[j]? =some lY)(ag:fW vs (cZ c aA)):fW ((l.map (cZ c)).set j vs).flatten ((l.set j aA).map (cZ c)).flatten:=by
 induction l generalizing j with
 |nil=>simp at aU
 |cons x l aR=>
  cases j with
  |zero=>
   simp only[List.map_cons,List.set_cons_zero,List.flatten_cons];exact ag.append (fW.refl _)
  |succ j=>
   simp only[List.map_cons,List.set_cons_succ,List.flatten_cons];exact(fW.refl _).append (aR (by simpa using aU))
theorem zau{t:TypeId}{p x:Operand}{r:dx}(an:o.op= .store t p x)(h:I9 P S t (S.a6 N p) (S.a6 N x)=some r):oV P G N B M o S r:=fun e hf hx hn=>by
 unfold I9 at h
 split at h
 ·rename_i id off ak
  split at h
  ·rename_i bt l n ah bK
   split at h
   ·rename_i ae
    cases h;simp only[Bool.and_eq_true]at ae
    have av:=uJ (G:=G) (e:=e) ae.1
    have hlen:=Nat.eq_of_beq_eq_true ae.2.1
    have lJ:cA (aJ G (S.den G N B e) x)=ab.bR G e (S.a6 N x).cells:=by rw[bJ hf,av]
    have:=Om (P:=P) (G:=G) (s:=S.den G N B e) t p x an (id:=id) (off:=off) (by rw[bJ hf,ak];rfl) (bt:=bt) (cs:=ab.bR G e l) (by simp only[ar.den,eR,ah,Option.map_some,bE.den])
     (vs:=ab.bR G e (S.a6 N x).cells) lJ (wI ae.1) (by rw[nq,bK,hlen]) (by rw[nq,nq,←hlen];exact Nat.le_of_ble_eq_true ae.2.2)
    rw[dx.st,fC];simp only[ar.den,uG,bE.den,ab.den,dx.l]at this⊢;rw[eG,CG,←eG,←eG];exact this
   ·cases h
  ·cases h
 ·rename_i id i off ak
  split at h
  ·rename_i bt c y n k ah bK hi
   split at h
   ·rename_i ae
    cases h;simp only[Bool.and_eq_true]at ae;obtain⟨eT,⟨gK,gf⟩,qq,wO,zt⟩:=ae
    have hlen:=Nat.eq_of_beq_eq_true qq
    obtain⟨g1,g2⟩:=wG hf hi hn;obtain⟨vs,v1,v2⟩:=CQ (G:=G) (e:=e) eT
    have oW:vs.length=n:=by
     have:=congrArg List.length v2
     rw[nq,List.length_map]at this;omega
    have lJ:cA (aJ G (S.den G N B e) x)=ab.bR G e (S.a6 N x).cells:=by rw[bJ hf,uJ gK]
    have aU:Env.at e S.k=⟨.st c,List.getD (y.aH e (.li c)) (Int.toNat (i.aH e (.int k))) (dJ c)⟩:=hx 0 _ rfl
    have aa:Env.at e (S.k+1)=_:=hx 1 _ rfl
    have eF:=getD_at g1 g2
    have dN:=Oo (P:=P) (G:=G) (s:=S.den G N B e) t p x an (id:=id) (i:=(cg (i.dyn e)).toNat) (off:=off) (by rw[bJ hf,ak];rfl) (bt:=bt) (n:=c8 c) (es:=List.map (cZ c) (y.aH e (.li c))) (by simp only[ar.den,eR,ah,Option.map_some,bE.den])
     (e:=cZ c (List.getD (y.aH e (.li c)) (Int.toNat (i.aH e (.int k))) (dJ c))) (by rw[List.getElem?_map,mo hi,eF];rfl) (by rw[lJ];exact v1) (by rw[bK,oW]) (by rw[oW];exact Nat.le_of_ble_eq_true wO)
    refine dN.wN ?_
    rw[dx.st,fC]
    have k5:fW (ea (cZ c (List.getD (y.aH e (.li c)) (Int.toNat (i.aH e (.int k))) (dJ c))) off vs) (cZ c (oI c (hW e (fo c) (ea (iY c S.k 0 (fo c)) off (S.a6 N x).cells)))):=by
     have:=y6 (G:=G) (e:=e) zt
     rw[eG,CG,←eG,←eG,wk,aU,cT,v2,←CG]at this;exact I6 this
    have gi:(ab.bl (.li c) (S.k+1)).aH e (.li c)=List.set (y.aH e (.li c)) (cg (i.dyn e)).toNat (oI c (hW e (fo c) (ea (iY c S.k 0 (fo c)) off (S.a6 N x).cells))):=by
     simp only[ab.aH,ab.fM,ab.dyn,cT,aa,bS.den,ab.get,ab.cells]
    refine Qm (s:={S.den G N B e with heap:=e3 (S.den G N B e).heap id _}) (h':=cM G e (kI S.h id (.rw bt c (.bl (.li c) (S.k+1))))) fun gM h7 zu=>?_
    rw[uG,vJ]at zu;simp only[vJ]
    by_cases hid:id=gM
    ·rw[if_pos hid]at zu⊢
     cases zu;refine⟨_,rfl,?_⟩
     simp only[bE.den];rw[gi];refine .row bt (c8 c) (by simp) (fun q aL=>?_) (zat (by rw[mo hi];exact eF) k5)
     obtain⟨z,_,rfl⟩:=List.mem_map.1 aL;exact Ci c z
    ·rw[if_neg hid]at zu⊢
     exact⟨h7,zu,.same h7⟩
   ·cases h
  ·cases h
 ·cases h
end
end Go.aM
namespace Go.aM
open Go Go.Lib
section
variable {P:Program}
theorem Ja{w:World}(t u ty e:TypeId){i:TypeInfo}(aG:P.underlying t=some (.slice e))(hu:P.underlying u=some .string)(hi:P.info? e=some i)(bu:i.zero=some (.int .u8 0))(ia:i.size=1)(iV:i.bytes=1)
 {v:Value}{n:Nat}{xs:List Value}(dL:kA w e 1 v n xs)(s:ByteArray)(r8:n+s.size≤maxLen)(yK:n+s.size≤140737488355328):
 ∃bx w',(Builtin.append_ #[t,u] ty #[v,.string s]).run P w= .ok bx w'∧kA w' e 1 bx (n+s.size) (xs++strCells s)∧w.grownBy w' (cf v)∧(∀k,cf bx=some k→cf v=some k∨w.heap.size≤k):=by
 have zdP:n+s.size≤9223372036854775807:=by simp only[maxLen]at r8;omega
 have lE:xs.length=n:=by simpa using dL.1
 have hlen:(xs++strCells s).length=(n+s.size)*1:=by rw[List.length_append,lE,strCells_length,Nat.mul_one]
 have grown: ∀(dK:Nat),dK<n+s.size→∀(row:Option Nat),
  kA (w.drew.alloc (.cells (xs.toArray++(strCells s).toArray++Builtin.zeroCells (Value.int .u8 0).cells (grownCap w (n+s.size) dK e-(n+s.size))) e)) e 1
   (.slice (some ⟨w.heap.size,0,none⟩) (n+s.size) (grownCap w (n+s.size) dK e)) (n+s.size) (xs++strCells s)∧
  w.grownBy (w.drew.alloc (.cells (xs.toArray++(strCells s).toArray++Builtin.zeroCells (Value.int .u8 0).cells (grownCap w (n+s.size) dK e-(n+s.size))) e)) row:=by
  intro dK an row
  have hY:=grownCap_ge w (n+s.size) dK e
  have iS:grownCap w (n+s.size) dK e≤maxLen:=grownCap_le_maxLen w (n+s.size) dK e r8
  refine⟨⟨hlen,.inr ⟨w.heap.size,_,_,rfl,by omega,heap_alloc_new w.drew _,hY,iS,?_,?_⟩⟩,⟨rfl,rfl,rfl,by simp,fun k aj _=>Go.RowKit.Below.heap_alloc w.drew _ k aj⟩⟩
  ·have zav:(Value.int IntKind.u8 0).cells.size=1:=rfl
   simp only[Array.size_append,List.size_toArray,size_zeroCells,zav,lE,strCells_length];omega
  ·simp only[Array.toList_append,List.append_assoc]
   rw[←List.append_assoc,←hlen];exact List.take_left
 have Jb: ∀(m c k:Nat),cf (.slice (some ⟨w.heap.size,0,none⟩) m c)=some k→cf v=some k∨w.heap.size≤k:=fun m c k aj=>by
  simp only[cf]at aj
  split at aj
  ·cases aj
  ·simp at aj;exact .inr (by omega)
 rcases dL.2 with⟨⟨c,rfl,uf⟩,kF⟩|⟨g,cap,cur,rfl,yL,ah,Qn,iS,fA,lD⟩
 ·subst kF
  have hx:xs=[]:=List.eq_nil_of_length_eq_zero lE
  subst hx
  by_cases hm:s.size=0
  ·have r9:strCells s=[]:=List.eq_nil_of_length_eq_zero (by rw[strCells_length];exact hm)
   have hf:=run_firstCells_string (P:=P) w 1 s
   rw[hm]at hf;refine⟨.slice c 0 0,w,?_,by rw[hm,r9];exact⟨rfl,.inl ⟨⟨c,rfl,uf⟩,rfl⟩⟩,World.grownBy.refl w _,fun k aj=>.inl aj⟩
   cases c<;>simp[Builtin.append_,run_underlying aG,run_underlying hu,sizeOf,typeInfo,hi,ia,Builtin.lenOf,hm,hf,r9,storeCells]
  ·have c2:=grown 0 (by omega) (cf (.slice c 0 0))
   cases c with
   |none=>
    have af:=run_append_nil_string (P:=P) w t u ty e i (.int .u8 0) aG hu hi bu s (by omega) (by omega) (by rw[iV];omega)
    simp only[Nat.zero_add,List.nil_append,Array.empty_append]at c2⊢
    have aA:(s.data.map fun b=>Value.int .u8 b.toNat)=(strCells s).toArray:=by
     apply Array.ext';simp[strCells]
    rw[aA]at af;exact⟨_,_,af,c2.1,c2.2,Jb _ _⟩
   |some a=>
    have af:=run_append_grow_string (P:=P) w t u ty e i (.int .u8 0) aG hu hi bu a 0 0 [] (by simp) (by simp) s (by omega) (by omega) (by rw[iV];exact growslice_fits (by omega) (by omega))
    exact⟨_,_,af,c2.1,c2.2,Jb _ _⟩
 ·by_cases Qo:n+s.size≤cap
  ·have af:=run_append_room_string (P:=P) w t u ty e i aG hu hi ia g n cap cur ah s Qo (by omega)
   refine⟨_,_,af,⟨hlen,.inr ⟨g,cap,_,rfl,yL,setRow_heap w g cur _ e _ ah,Qo,iS,?_,?_⟩⟩,⟨rfl,rfl,rfl,by simp,fun k _ aj=>setRow_other w g k _ (fun e=>aj (by simp[cf,e,Nat.ne_of_gt yL]))⟩,fun k aj=>.inl ?_⟩
   ·simp only[List.size_toArray,List.length_append,List.length_take,List.length_drop,Array.length_toList,strCells_length]
    omega
   ·have ct:cur.toList.take n=xs:=by simpa using lD
    rw[ct,←hlen];exact List.take_left
   ·simpa[cf,Nat.ne_of_gt yL]using aj
  ·have holds: ∀j u,xs[j]? =some u→w.cell? ((⟨g,0,none⟩:Addr).add j)=some u:=by
    have jt:w.ownsRow 0 e 1 (.slice (some ⟨g,0,none⟩) n cap) n xs:=⟨dL.1,.inr ⟨g,cap,cur,rfl,Nat.zero_le _,ah,Qn,iS,fA,lD⟩⟩
    exact jt.cells (g:=g) rfl
   have af:=run_append_grow_string (P:=P) w t u ty e i (.int .u8 0) aG hu hi bu ⟨g,0,none⟩ n cap xs (by rw[ia];simpa using lE) holds s (by omega) (by omega) (by rw[iV];exact growslice_fits (by omega) (by omega))
   have c2:=grown cap (by omega) (cf (.slice (some ⟨g,0,none⟩) n cap))
   exact⟨_,_,af,c2.1,c2.2,Jb _ _⟩
def eX(b:ByteArray):List Int:=b.data.toList.map fun u=>(u.toNat:Int)
theorem Jc{w:World}{ro:Nat→Prop}(b:ByteArray):((eX b).map fun z=>[bh.v (.int .u8 z)]).length=b.size∧∀(j:Nat) (x:bh),((eX b).map fun z=>[bh.v (.int .u8 z)]).flatten[j]? =some x→dt w ro x ((strCells b).getD j undef):=by
 refine⟨by rw[List.length_map];unfold eX;rw[List.length_map,Array.length_toList];rfl,fun j x ai=>?_⟩
 have ow:((eX b).map fun z=>[bh.v (.int .u8 z)]).flatten=(eX b).map fun z=>bh.v (.int .u8 z):=by
  generalize eX b=l
  induction l with
  |nil=>rfl
  |cons y r aR=>simp only[List.map_cons,List.flatten_cons,aR,List.singleton_append]
 rw[ow]at ai
 unfold eX at ai
 simp only[List.map_map,List.getElem?_map]at ai
 obtain⟨u,hu,rfl⟩:=Option.map_eq_some_iff.1 ai
 have:(strCells b).getD j undef= .int .u8 (u.toNat:Int):=by
  unfold strCells;simp[List.getD,hu]
 rw[this]
 exact .v _ rfl
variable {G:a7} {s:aN} {o:Oper}
def wP(P:Program)(t u:TypeId):Option TypeId:=
 match P.underlying t,P.underlying u with
 |some (.slice e),some .string=>match P.info? e with
  |some i=>match i.zero with
   |some (.int .u8 0)=>match Nat.beq i.size 1&&Nat.beq i.bytes 1 with
    |true=>some e
    |false=>none
   |_=>none
  |none=>none
 |_,_=>none
theorem Jd{t u e:TypeId}(h:wP P t u=some e): ∃i,P.underlying t=some (.slice e)∧P.underlying u=some .string∧P.info? e=some i∧i.zero=some (.int .u8 0)∧i.size=1∧i.bytes=1:=by
 unfold wP at h
 split at h
 ·rename_i ax hu ag
  split at h
  ·rename_i i hi
   split at h
   ·rename_i bu
    split at h
    ·rename_i hc
     cases h;simp only[Bool.and_eq_true]at hc;exact⟨i,hu,ag,hi,bu,Nat.eq_of_beq_eq_true hc.1,Nat.eq_of_beq_eq_true hc.2⟩
    ·cases h
   ·cases h
  ·cases h
 ·cases h
theorem zaw(x y:Operand)(t u:TypeId)(an:o.op= .call {callee:=.builtin .append,args:=#[x,y],argTypes:=#[t,u]}){e:TypeId}(aG:wP P t u=some e)
 {id:Nat}(hx:aJ G s x= .aP id){es:List (List bh)}(hid:aF s.heap id=some (.row false e 1 es))(ae:s.base≤id)(bB:id<s.next)
 {b:ByteArray}(az:aJ G s y= .au (.v (.string b)))(bK:es.length+b.size≤maxLen∧es.length+b.size≤140737488355328):
 eh P G o s (aN.put ⟨ej id s.cE,(id,.row false e 1 (es++(eX b).map fun z=>[bh.v (.int .u8 z)]))::dv id s.heap,s.next,s.base⟩ o.dst (.aP id)):=by
 intro E a w ⟨β,ro,af⟩ K Q hK
 obtain⟨i,hu,ag,hi,bu,ia,iV⟩:=Jd aG
 have du:=af.heap.c7 id _ hid
 cases du with
 |row _ _ _ xs dL cb fk=>
  have lJ:a.eval x=β id:=by
   have h:=af.eval x
   rw[hx]at h;generalize a.eval x=c at h
   cases h with
   |aP _ _ _ ak=>exact ak _ _ _ _ hid
  obtain⟨bx,w',cU,oH,c2,bc⟩:=Ja (P:=P) t u o.type e hu ag hi bu ia iV dL b bK.1 bK.2;obtain⟨dk,dy⟩:=Jc (w:=w) (ro:=ro) b;unfold Oper.wp;simp only[execOp,an,resolve,invoke,builtin,Sem.run_bind,Sem.run_pure,Result.andThen_ok,List.map_toArray,List.map_cons,List.map_nil,lJ,af.ep az,cU]
  have kC: ∀k,k<w.heap.size→cf (β id)≠some k→w'.heap[k]? =w.heap[k]? :=fun k aj cb=>c2.block k aj (fun e=>cb e.symm)
  have cc: ∀k,ro k→w'.heap[k]? =w.heap[k]? :=fun k aj=>kC k (af.heap.lt k aj) fun bc=>af.heap.fz k aj ⟨id,_,hid,rfl,bc⟩
  refine hK _ _ ⟨hq β id bx,ro,c9.put (af.renew (w':=w') id ae bB hid (.row false e 1 (es++(eX b).map fun z=>[bh.v (.int .u8 z)])) bx c2.os c2.tape c2.output c2.size kC bc rfl ?_) o.dst _ _ ?_⟩
  ·refine .row e 1 _ _ (by rw[eA,List.length_append,dk];exact oH) (fun ax lF=>?_) (fun j x ai=>?_)
   ·rw[List.mem_append]at lF
    rcases lF with h|h
    ·exact cb _ h
    ·obtain⟨z,_,rfl⟩:=List.mem_map.1 h
     rfl
   ·exact(Cb cb dL.1 fk dy j x ai).keep cc fun _ h=>h
  ·exact .aP _ _ bB fun z bw cR ez _=>(eA _ _ _).symm
theorem zax(x y:Operand)(t u:TypeId)(an:o.op= .call {callee:=.builtin .append,args:=#[x,y],argTypes:=#[t,u]}){e:TypeId}(aG:wP P t u=some e)
 (hx:aJ G s x= .au (.v (.slice none 0 0)))(ae:s.base≤s.next){b:ByteArray}(az:aJ G s y= .au (.v (.string b)))(bK:b.size≤maxLen∧b.size≤140737488355328):
 eh P G o s ({s with heap:=(s.next,.row false e 1 ((eX b).map fun z=>[bh.v (.int .u8 z)]))::s.heap,next:=s.next+1}.put o.dst (.aP s.next)):=by
 intro E a w ⟨β,ro,af⟩ K Q hK
 obtain⟨i,hu,ag,hi,bu,ia,iV⟩:=Jd aG
 obtain⟨bx,w',cU,oH,c2,bc⟩:=Ja (P:=P) (w:=w) t u o.type e hu ag hi bu ia iV (v:=.slice none 0 0) (n:=0) (xs:=[]) ⟨by simp,.inl ⟨⟨none,rfl,fun _ h=>(by cases h)⟩,rfl⟩⟩ b (by omega) (by omega)
 obtain⟨dk,dy⟩:=Jc (w:=w) (ro:=ro) b
 unfold Oper.wp
 simp only[execOp,an,resolve,invoke,builtin,Sem.run_bind,Sem.run_pure,Result.andThen_ok,List.map_toArray,List.map_cons,List.map_nil,af.ep hx,af.ep az,cU]
 have k6:aF s.heap s.next=none:=by
  cases ah:aF s.heap s.next with
  |none=>rfl
  |some p=>have:=af.trans.new _ _ ah;omega
 have hw: ∀b,b<w.heap.size→w'.heap[b]? =w.heap[b]? :=fun b ae=>c2.block b ae (by simp[cf])
 have cc: ∀b,ro b→w'.heap[b]? =w.heap[b]? :=fun b ae=>hw b (af.heap.lt b ae)
 refine hK _ _ ⟨hq β s.next bx,ro,c9.put (af.new (w':=w') s.next k6 ae (Nat.le_refl _) (.row false e 1 ((eX b).map fun z=>[bh.v (.int .u8 z)])) bx c2.os c2.tape c2.output c2.size hw (fun b ae=>?_) rfl ?_) o.dst _ _ ?_⟩
 ·rcases bc b ae with h|h
  ·simp[cf]at h
  ·exact h
 ·refine .row e 1 _ _ (by rw[eA,dk];simpa using oH) (fun ax lF=>?_) (fun j x ai=>(dy j x ai).keep cc fun _ h=>h)
  obtain⟨z,_,rfl⟩:=List.mem_map.1 lF;rfl
 ·exact .aP _ _ (Nat.lt_succ_self _) fun z bw cR ez _=>(eA _ _ _).symm
end
end Go.aM
