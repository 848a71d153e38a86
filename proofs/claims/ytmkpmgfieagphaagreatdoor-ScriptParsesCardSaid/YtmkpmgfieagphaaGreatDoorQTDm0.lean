/- TD, part J: more operations that give values; all of them. Conditions: none. -/
import Derived.Test.YtmkpmgfieagphaaGreatDoorQTDi
import Derived.Laws.Externs
import Derived.Laws.LoneSync
import Derived.LaidEqlPtr
import Derived.Test.YtmkpmgfieagphaaGreatDoorQSMu
import Derived.Test.YtmkpmgfieagphaaGreatDoorQTDb
import Derived.Lib.AppendStr
namespace Go.aL
open Go
def ab.sq(x g:ab)(b:Bool):ab:=
 match x with
 | .fk h c v=>match y2 g h&&(decide (c=b))with
  |true=>v
  |false=>x
 |x=>x
def Ie(S:ar)(c x y:ab):Option dK:=
 match c,lf c S.g with
 | .cs (.bool b),_=>some ⟨[],[],match b with|true=>x|false=>y⟩
 |c,some b=>match c.rt with
  |some .bool=>some ⟨[],[],match b with|true=>x|false=>y⟩
  |_=>none
 |c,none=>match c.rt with
  |some .bool=>match(match(x.sq c true).rt with|some r=>some r|none=>(y.sq c false).rt)with
   |some r=>match(x.sq c true).fz r&&((y.sq c false).fz r&&r.one)with
    |true=>some ⟨[.Cb r c (x.sq c true) (y.sq c false)],[],.bg r S.k⟩
    |false=>none
   |none=>none
  |_=>none
def sr(r:aU):List ab→Bool
 |[]=>true
 |x::l=>x.fz r&&sr r l
def Py:List ab→Option aU
 |[]=>none
 |x::_=>x.rt
def Ig(P:Program)(S:ar)(t:TypeId)(x i:ab):Option dK:=
 match x with
 | .cD l=>match P.underlying t with
  |some (.array len el)=>match scalar P el&&Nat.beq l.length len,(P.info? el).map (·.size)with
   |true,some 1=>match i with
    | .cs (.int .i64 (.ofNat j))=>match l[j]? with
     |some v=>some ⟨[],[],v⟩
     |none=>none
    |i=>match i.rt,Py l with
     |some (.int .i64),some r=>match sr r l&&r.one with
      |true=>some ⟨[.nth r l i],wz S.g l.length i,.bg r S.k⟩
      |false=>none
     |_,_=>none
   |_,_=>none
  |_=>none
 |x=>match x.rt,i.rt,isStr P t with
  |some .str,some (.int k),true=>some ⟨[.f2 (.qX k) x i],oM S.g .nL (.qX k) x i,.bg (.int .u8) S.k⟩
  |_,_,_=>none
def uC(x:ab):Option bN:=
 match x.rt with
 |some (.li c)=>some c
 |_=>none
def Y7(P:Program)(t:TypeId)(n:Nat):Option bN:=
 match P.underlying t with
 |some (.slice el)=>Yn.find? fun c=>Nat.beq n (c5 c)&&(q5 P el (iT c 0 0 (fh c))).isSome
 |_=>none
def Ih(P:Program)(f:Nat):Nat:=
 match P.funcs[f]? with
 |some fn=>match fn.body.isNone&&fn.origin== "",fn.name== "internal/abi.NoEscape",fn.name== "internal/bytealg.IndexByteString" with
  |true,true,_=>1
  |true,false,true=>2
  |_,_,_=>0
 |none=>0
def Ii(P:Program)(S:ar)(f:ab)(as:List ab):Option dK:=
 match f with
 | .fn (.func f) [] []=>match Ih P f,as with
  |1,[x]=>some ⟨[],[],x⟩
  |2,[x,y]=>match x.rt,y.rt with
   |some .str,some (.int .u8)=>some ⟨[.f2 .tN x y],[],.bg (.int .i64) S.k⟩
   |_,_=>none
  |_,_=>none
 |_=>none
def Ij(P:Program)(S:ar)(t:TypeId)(x i:ab):Option dK:=
 match i.rt with
 |some (.int k)=>match jP P t with
  |some n=>match x with
   | .aN id=>match dm S.h id with
    |some (.rw _ c y)=>match Nat.beq n (c5 c)with
     |true=>some ⟨[],oM S.g (.iA c) (.jX c k) y i,.gu id i 0⟩
     |false=>none
    |_=>none
   | .cx id m=>match dm S.h id,i with
    |some (.c8 _ _),.cs (.int _ (.ofNat j))=>match Nat.blt j m with
     |true=>some ⟨[],[],.dz id (j*n)⟩
     |false=>none
    |_,_=>none
   |x=>match uC x with
    |some c=>match Nat.beq n (c5 c)with
     |true=>some ⟨[.f2 (.jX c k) x i],oM S.g (.iA c) (.jX c k) x i,.ip c S.k 0⟩
     |false=>none
    |none=>match x.isNil,Y7 P t n with
     |true,some c=>some ⟨[.f2 (.jX c k) x i],[.f2 0 (.jX c k) x i],.ip c S.k 0⟩
     |_,_=>none
  |none=>match tY P t,uz S x with
   |some (len,n),some _=>match i,x with
    | .cs (.int _ (.ofNat j)),x=>match Nat.blt j len,wB (j*n) x with
     |true,some p=>some ⟨[],[],p⟩
     |_,_=>none
    |i,.dz id off=>some ⟨[],wz S.g len i,.gB id off i n⟩
    |_,_=>none
   |_,_=>none
 |_=>none
def Ik(P:Program)(S:ar)(t:TypeId)(x:ab):Option dK:=
 match x with
 | .gu id i off=>match dm S.h id,i.rt with
  |some (.rw _ c y),some (.int k)=>match q5 P t ((iT c S.k 0 (fh c)).drop off),y.fz (.li c)with
   |some v,true=>some ⟨[.f2 (.jX c k) y i],oM S.g (.iA c) (.jX c k) y i,v⟩
   |_,_=>none
  |_,_=>none
 | .gB id off i 1=>match dm S.h id,i.rt with
  |some (.c8 _ l),some (.int _)=>match Py (l.drop off)with
   |some r=>match sr r (l.drop off)&&(r.one&&scalar P t)with
    |true=>some ⟨[.nth r (l.drop off) i],wz S.g (l.drop off).length i,.bg r S.k⟩
    |false=>none
   |none=>none
  |_,_=>none
 |x=>match uz S x with
  |some l=>match q5 P t l with
   |some v=>some ⟨[],[],v⟩
   |none=>none
  |none=>none
def Il(P:Program)(S:ar)(t:TypeId)(x:ab):Option dK:=
 match x with
 | .cs (.slice none 0 0)=>match isSlice P t with
  |true=>some ⟨[],[],.cs (.int .i64 0)⟩
  |false=>none
 | .cs (.string s)=>match isStr P t with
  |true=>some ⟨[],[],.cs (.int .i64 (ByteArray.size s:Int))⟩
  |false=>none
 | .cx id n=>match dm S.h id,isSlice P t with
  |some (.c8 _ _),true=>some ⟨[],[],.cs (.int .i64 (n:Int))⟩
  |_,_=>none
 | .aN id=>match dm S.h id with
  |some (.rw _ c y)=>match isSlice P t with
   |true=>some ⟨[.f1 (.iA c) y],[],.bg (.int .i64) S.k⟩
   |false=>none
  |_=>none
 |x=>match x.rt with
  |some .str=>match isStr P t with
   |true=>some ⟨[.f1 .nL x],[],.bg (.int .i64) S.k⟩
   |false=>none
  |some (.li c)=>match isSlice P t with
   |true=>some ⟨[.f1 (.iA c) x],[],.bg (.int .i64) S.k⟩
   |false=>none
  |_=>match BK P t with
   |some n=>some ⟨[],[],.cs (.int .i64 (n:Int))⟩
   |none=>none
def wD(N:Nat)(S:ar):Option Operand→Option (Option ab)
 |none=>some none
 |some y=>match(S.aX N y).rt with
  |some (.int _)=>some (some (S.aX N y))
  |_=>none
def Im(P:Program)(N:Nat)(S:ar)(t:TypeId)(x:ab)(lo hi:Option Operand):Option dK:=
 match wD N S lo,wD N S hi with
 |some l,some h=>match x.rt with
  |some .str=>match isStr P t with
   |true=>some ⟨[.uu x l h],(match l,h with|none,none=>[]|_,_=>[.uu x l h]),.bg .str S.k⟩
   |false=>none
  |some (.li c)=>match jP P t with
   |some n=>match Nat.beq n (c5 c)with
    |true=>some ⟨[.eR c x l h],(match l,h with|none,none=>[]|_,_=>[.eR c x l h]),.bg (.li c) S.k⟩
    |false=>none
   |none=>none
  |_=>none
 |_,_=>none
def Pz(P:Program)(S:ar)(src dst:TypeId)(id:Nat):Option dK:=
 match dm S.h id,P.underlying src with
 |some (.rw _ .u8 y),some (.slice el)=>match P.underlying el,P.underlying dst with
  |some (.int .u8),some .string=>some ⟨[.f1 .cx y],[],.bg .str S.k⟩
  |_,_=>none
 |_,_=>none
def Io(P:Program)(S:ar)(src dst:TypeId)(x:ab):Option dK:=
 match x with
 | .aN id=>Pz P S src dst id
 |x=>match x.rt with
  |some (.int k)=>match P.underlying src,P.underlying dst with
   |some _,some (.int bo)=>some ⟨[.f1 (.qU k bo) x],[],.bg (.int bo) S.k⟩
   |_,_=>none
  |some (.li .u8)=>match P.underlying src with
   |some (.slice el)=>match P.underlying el,P.underlying dst with
    |some (.int .u8),some .string=>some ⟨[.f1 .cx x],[],.bg .str S.k⟩
    |_,_=>none
   |_=>none
  |_=>none
def Ip(S:ar)(op:UnOp)(x:ab):Option dK:=
 match op,x.rt with
 | .not,some .bool=>some ⟨[.f1 .mZ x],[],.bg .bool S.k⟩
 | .neg,some (.int k)=>some ⟨[.f1 (.yV k) x],[],.bg (.int k) S.k⟩
 | .xor,some (.int k)=>some ⟨[.f1 (.tM k) x],[],.bg (.int k) S.k⟩
 |_,_=>none
def Iq(P:Program)(N:Nat)(S:ar)(t:TypeId)(ps:List (Nat × Operand)):Option dK:=
 match places P t,zeroCells P t with
 |some pl,some zs=>match zs.all Value.oneCell'&&(ps.map fun p=>(p.1,S.aX N p.2)).all fun p=>p.2.cells.all (kF S.h)with
  |true=>match q6 pl (zs.map .cs) (ps.map fun p=>(p.1,S.aX N p.2))with
   |some ds=>some ⟨[],[],.cD ds⟩
   |none=>none
  |false=>none
 |_,_=>none
def Ir(P:Program)(t:TypeId)(x:ab)(f:Nat):Option dK:=
 match x,vL P t f with
 | .cD l,some (off,none)=>match l[off]? with
  |some v=>some ⟨[],[],v⟩
  |none=>none
 | .cD l,some (off,some n)=>match Nat.ble (off+n) l.length with
  |true=>some ⟨[],[],.cD ((l.drop off).take n)⟩
  |false=>none
 |_,_=>none
def Is(S:ar)(b:Builtin)(x y:ab):Option dK:=
 match x.rt,y.rt,b with
 |some (.int k),some (.int bo),.min=>match decide (k=bo)with
  |true=>some ⟨[.f2 (.tO k) x y],[],.bg (.int k) S.k⟩
  |false=>none
 |some (.int k),some (.int bo),.max=>match decide (k=bo)with
  |true=>some ⟨[.f2 (.mx k) x y],[],.bg (.int k) S.k⟩
  |false=>none
 |_,_,_=>none
def Cn(P:Program)(t:TypeId):Bool:=
 match P.underlying t with
 |some (.pointer e)=>(P.info? e).isSome&&match(P.info? e).map (fun i=>decide (i.size=0))with
  |some false=>true
  |_=>false
 |_=>false
def zc(S:ar)(id:Nat):Bool:=
 match dm S.h id with
 |some (.c8 _ _)=>true
 |_=>false
def Co(S:ar)(b:Bool)(g:ab):Option dK:=
 match g.rt,b with
 |some .bool,true=>some ⟨[],[],g⟩
 |some .bool,false=>some ⟨[.f1 .mZ g],[],.bg .bool S.k⟩
 |_,_=>none
def It:BinOp→Option Bool
 | .eql=>some true
 | .neq=>some false
 |_=>none
def Iu(P:Program)(S:ar)(op:BinOp)(ck:TypeId)(x y:ab):Option dK:=
 match Cn P ck,It op with
 |true,some b=>match x,y with
  | .cs (.pointer none),.cs (.pointer none)=>some ⟨[],[],.cs (.bool b)⟩
  | .dz i o,.dz j q=>match(Nat.beq i j&&Nat.beq o q)&&zc S i with
   |true=>some ⟨[],[],.cs (.bool b)⟩
   |false=>none
  | .eV g (some i) _,.cs (.pointer none)=>match zc S i with
   |true=>Co S (!b) g
   |false=>none
  | .eV g (some i) o,.dz j q=>match(Nat.beq i j&&Nat.beq o q)&&zc S i with
   |true=>Co S b g
   |false=>none
  |_,_=>none
 |_,_=>none
def Iv(P:Program)(S:ar)(src dst:TypeId)(x:ab):Option dK:=
 match x with
 | .dz id off=>match dm S.h id,P.underlying src,P.underlying dst with
  |some (.c8 _ l),some (.pointer t),some .unsafePointer=>match(P.info? t).map (fun i=>decide (i.size=0)),Nat.blt off l.length with
   |some false,true=>some ⟨[],[],x⟩
   |_,_=>none
  |some (.c8 bt l),some .unsafePointer,some (.pointer u)=>match liesAt P P.depth bt (l.length/ P.cellsOf bt) off u 1&&(P.info? u).isSome,Nat.blt off l.length with
   |true,true=>some ⟨[],[],x⟩
   |_,_=>none
  |_,_,_=>none
 |_=>none
def pN(P:Program)(N:Nat)(S:ar)(o:Oper):Option dK:=
 match o.op with
 | .move x=>some ⟨[],[],S.aX N x⟩
 | .assign x=>some ⟨[],[],S.aX N x⟩
 | .pick c x y=>Ie S (S.aX N c) (S.aX N x) (S.aX N y)
 | .extract x i=>match S.aX N x with
  | .tp l=>match l[i]? with
   |some v=>some ⟨[],[],v⟩
   |none=>none
  |_=>none
 | .nilCheck x=>match so S (S.aX N x)with
  |true=>some ⟨[],[],S.aX N x⟩
  |false=>none
 | .fieldAddr t x f=>match rX P t f,so S (S.aX N x)with
  |some k,true=>match wB k (S.aX N x)with
   |some p=>some ⟨[],[],p⟩
   |none=>none
  |_,_=>none
 | .load t x=>Ik P S t (S.aX N x)
 | .field t x f=>Ir P t (S.aX N x) f
 | .indexAddr t x i=>Ij P S t (S.aX N x) (S.aX N i)
 | .index t x i=>Ig P S t (S.aX N x) (S.aX N i)
 | .binOp op ck x y _=>match Ic P S op ck (S.aX N x) (S.aX N y)with
  |some r=>some r
  |none=>Iu P S op ck (S.aX N x) (S.aX N y)
 | .unOp op _ x=>Ip S op (S.aX N x)
 | .convert src dst x=>match Io P S src dst (S.aX N x)with
  |some r=>some r
  |none=>Iv P S src dst (S.aX N x)
 | .build t ps=>Iq P N S t ps.toList
 | .makeFunc (.func f) p q=>some ⟨[],[],.fn (.func f) (p.toList.map (S.aX N)) (q.toList.map (S.aX N))⟩
 | .slice t x lo hi none=>Im P N S t (S.aX N x) lo hi
 | .call c=>match c.callee,c.args.toList,c.argTypes.toList with
  | .builtin .len,[x],[t]=>Il P S t (S.aX N x)
  | .builtin b,[x,y],_=>Is S b (S.aX N x) (S.aX N y)
  | .value f,l,_=>Ii P S (S.aX N f) (l.map (S.aX N))
  |_,_,_=>none
 |_=>none
section
variable {P:Program} {G:aY} {o:Oper} {N B:Nat} {S:ar} {M:List aW}
theorem PA{e:Env}{g:ab}{b:Bool}{x:ab}(h:g.aH e .bool=b):(x.sq g b).den G e=x.den G e:=by
 unfold ab.sq
 split
 ·rename_i h' c v
  split
  ·rename_i ad
   simp only[Bool.and_eq_true,decide_eq_true_eq]at ad
   have:=H0 ad.1
   subst this;obtain⟨_,rfl⟩:=ad;simp only[ab.den,h]
   cases c<;>rfl
  ·rfl
 ·rfl
theorem Cp{e:Env}{r:aU}(h:r.one=true)(x:ab):x.get e r=x.aH e r:=by
 cases r<;>first|rfl|cases h
theorem j1.nil{v:ab}(h: ∀e,(∀c∈S.g,c.ok e)→cT P G o (S.den G N B e) (v.den G e)):j1 P G N B M o S ⟨[],[],v⟩:=fun e hf _ _=>h e hf
theorem Y8{c x y:Operand}{r:dK}(an:o.op= .pick c x y)(h:Ie S (S.aX N c) (S.aX N x) (S.aX N y)=some r):j1 P G N B M o S r:=fun e hf hx hn=>by
 unfold Ie at h
 split at h
 ·rename_i b ad
  cases h
  have hc:aI G (S.den G N B e) c= .au (.v (.bool b)):=by rw[bI hf,ad];rfl
  refine yn c x y an hc ?_
  cases b<;>simp[bI hf]
 ·rename_i b ad _
  split at h
  ·rename_i af
   cases h
   have aj:=pJ ad hf
   have hc:aI G (S.den G N B e) c= .au (.v (.bool b)):=by rw[bI hf,gG af,aj];rfl
   refine yn c x y an hc ?_
   cases b<;>simp[bI hf]
  ·cases h
 ·split at h
  ·rename_i hc
   split at h
   ·rename_i q _
    split at h
    ·rename_i ad
     cases h;simp only[Bool.and_eq_true]at ad
     have yf:aI G (S.den G N B e) c= .au (.v (.bool ((S.aX N c).aH e .bool))):=(bI hf c).trans (gG hc)
     refine(yn c x y an yf rfl).sub ?_
     have aS:Env.at e S.k=_:=hx 0 _ rfl
     simp only[ab.den,aS,bQ.den,cQ,bI hf,Cp ad.2.2]
     cases gf:(S.aX N c).aH e .bool with
     |true=>
      simp only[cond_true,if_true];rw[←PA (G:=G) (x:=S.aX N x) gf];exact ur ad.1
     |false=>
      simp only[cond_false,Bool.false_eq_true,if_false];rw[←PA (G:=G) (x:=S.aX N y) gf];exact ur ad.2.1
    ·cases h
   ·cases h
  ·cases h
theorem Iw{e:Env}{r:aU}: ∀{l:List ab} {j:Nat} {x:ab},sr r l=true→l[j]? =some x→Sub (x.den G e) (.au (fM r (sj e r l j)))
 |[],_,_,_,h=>by simp at h
 |[y],j,x,aK,h=>by
  have ai:j=0:=by
   have:=(List.getElem?_eq_some_iff.1 h).1
   simp at this;exact this
  subst ai;simp only[List.getElem?_cons_zero,Option.some.injEq]at h
  subst h;simp only[sr,Bool.and_eq_true]at aK;exact ur aK.1
 |y::z::l,0,x,aK,h=>by
  simp only[List.getElem?_cons_zero,Option.some.injEq]at h
  subst h;simp only[sr,Bool.and_eq_true]at aK;exact ur aK.1
 |y::z::l,j+1,x,aK,h=>by
  simp only[List.getElem?_cons_succ]at h
  simp only[sr,Bool.and_eq_true]at aK
  have:=Iw (e:=e) (r:=r) (l:=z::l) (j:=j) (x:=x) (by simp only[sr,Bool.and_eq_true];exact aK.2) h
  have ad:Nat.beq (j+1) 0=false:=rfl
  simp only[sj,ad,cond_false,Nat.add_sub_cancel];exact this
theorem Cq{e:Env}{l:List ab}{j:Nat}{x:ab}(h:l[j]? =some x):(ab.bP G e l)[j]? =some (x.den G e):=by rw[eD,List.getElem?_map,h];rfl
theorem Y9{t:TypeId}{x i:Operand}{r:dK}(an:o.op= .index t x i)(h:Ig P S t (S.aX N x) (S.aX N i)=some r):j1 P G N B M o S r:=fun e hf hx hn=>by
 unfold Ig at h
 split at h
 ·rename_i l ao
  have gF:aI G (S.den G N B e) x= .agg (ab.bP G e l):=by rw[bI hf,ao];rfl
  split at h
  ·rename_i len el hu
   split at h
   ·rename_i ad bJ
    simp only[Bool.and_eq_true]at ad
    have hlen:=Nat.eq_of_beq_eq_true ad.2
    split at h
    ·rename_i j hi
     split at h
     ·rename_i v av
      cases h
      have ai:=(List.getElem?_eq_some_iff.1 av).1
      exact OY j an hu ad.1 bJ (by rw[bI hf,hi];rfl) gF (Cq av) (by omega)
     ·cases h
    ·split at h
     ·rename_i er hi af
      split at h
      ·rename_i aK
       cases h;simp only[Bool.and_eq_true]at aK
       have kA:0≤cc ((S.aX N i).dyn e)∧cc ((S.aX N i).dyn e)<(l.length:Int):=Cj hf hn
       obtain⟨j,ai⟩: ∃j:Nat,cc ((S.aX N i).dyn e)=(j:Int):=⟨_,(Int.toNat_of_nonneg kA.1).symm⟩
       have dP:j<l.length:=by omega
       have gA:aI G (S.den G N B e) i=iw (j:Int):=by
        rw[bI hf,jv hi,←mh hi,ai]
       have av:l[j]? =some l[j]:=List.getElem?_eq_getElem dP
       refine(OY j an hu ad.1 bJ gA gF (Cq av) (by omega)).sub ?_
       have aS:Env.at e S.k=_:=hx 0 _ rfl
       simp only[ab.den,aS,bQ.den,cQ,ai,Int.toNat_natCast];exact Iw aK.1 av
      ·cases h
     ·cases h
   ·cases h
  ·cases h
 ·split at h
  ·rename_i k aa ae aG
   cases h
   have gF:aI G (S.den G N B e) x=_:=(bI hf x).trans (gG aa)
   have gA:aI G (S.den G N B e) i=_:=(bI hf i).trans (jv ae)
   obtain⟨g1,g2⟩:=Y2 hf ae hn;exact pK (f:=.qX k) (hx 0 _ rfl) (YH _ k _ an (uc aG) gA gF g1 g2)
  ·cases h
theorem PB{e:Env}{c:bN}{i:Nat}{x:fZ c}(h:Env.at e i=⟨.st c,x⟩):(ab.ip c i 0).den G e= .au (.ptr (cX c x)):=by
 simp only[ab.den,h,cQ,List.drop_zero]
theorem getD_at{c:bN}{l:List (fZ c)}{z:Int}(aS:0≤z)(aa:z<(l.length:Int)):l[z.toNat]? =some (l.getD z.toNat (fJ c)):=by
 have:z.toNat<l.length:=by omega
 rw[List.getD_eq_getElem?_getD,List.getElem?_eq_getElem this]
 rfl
theorem Ix{e:Env}{x:ab}{c:bN}(h:uC x=some c):x.den G e= .au (.li c (x.aH e (.li c)))∧x.rt=some (.li c):=by
 unfold uC at h
 split at h
 ·rename_i r9 af
  cases h;exact⟨gG af,af⟩
 ·cases h
theorem Za{s:aM}{x:Operand}{t:TypeId}(an:o.op= .call {callee:=.builtin .len,args:=#[x],argTypes:=#[t]})(aG:isSlice P t=true){id n:Nat}(hx:aI G s x= .dB id n){bt:TypeId}{cs:List aD}(hid:aE s.heap id=some (.box bt cs)):cT P G o s (.au (.v (.int .i64 (n:Int)))):=
 fun E a w β ro af=>by
  have h:=af.eval x
  rw[hx]at h;generalize hc:a.eval x=c at h
  cases h with
  |dB _ _ _ ao ak=>
   obtain⟨b,_,rfl⟩:=ak _ _ hid;unfold isSlice at aG
   split at aG
   ·rename_i e hu
    refine⟨.int .i64 n,?_,.fK rfl⟩
    simp[execOp,an,resolve,invoke,builtin,hc,Builtin.len_,run_underlying hu,goInt]
   ·cases aG
theorem Zb{s:aM}{x y:Operand}{t:TypeId}(an:o.op= .indexAddr t x y){nX:Nat}(aG:jP P t=some nX){k:IntKind}{j n:Nat}(ax:aI G s y= .au (.v (.int k (j:Int))))(ai:j<n){id:Nat}(hx:aI G s x= .dB id n){bt:TypeId}{cs:List aD}(hid:aE s.heap id=some (.box bt cs)):cT P G o s (.ptr id (j*nX)):=
 fun E a w β ro af=>by
  have h:=af.eval x
  rw[hx]at h;generalize hc:a.eval x=c at h
  cases h with
  |dB _ _ _ ao ak=>
   obtain⟨b,ad,rfl⟩:=ak _ _ hid;obtain⟨e,hu,bJ⟩:=yu aG;refine⟨.pointer (some ⟨b,j*nX,none⟩),?_,.ptr _ _ _ ao fun bs cs' _=>⟨b,ad,rfl⟩⟩
   by_cases br:j*nX=0<;>simp[execOp,an,hc,af.en ax,Instr.indexAt,asIntOf,run_underlying hu,ai,bJ,Addr.add,br]
theorem Zc(cx:ByteArray)(c:Int):Extern.BytealgIndexByte.indexByte #[.string cx,.int .u8 c]=pure (.int .i64 (tr cx c)):=by
 have hi:Extern.BytealgIndexByte.indexByte #[.string cx,.int .u8 c]=(match(List.range cx.size).find? fun i=>cx[i]! ==c.toNat.toUInt8 with
  |some i=>pure (goInt i)
  |none=>pure (goInt (-1))):=rfl
 rw[hi]
 unfold tr
 cases List.find? (fun i=>cx[i]! ==c.toNat.toUInt8) (List.range cx.size)<;>rfl
theorem Cr{a b:String}(h:(a==b)=true):a=b:=by simpa using h
theorem Zd{f:Operand}{as:List Operand}{args:Array Operand}{ts:Array TypeId}{r:dK}(an:o.op= .call {callee:=.value f,args:=args,argTypes:=ts})(aK:args.toList=as)(h:Ii P S (S.aX N f) (as.map (S.aX N))=some r):j1 P G N B M o S r:=fun e hf hx hn=>by
 unfold Ii at h
 split at h
 rotate_left
 ·cases h
 rename_i PC uD
 have wE:aI G (S.den G N B e) f= .fn (.func PC) [] []:=by rw[bI hf,uD];rfl
 have start: ∀{ev:Array Value→Sem Value} {fn:Func},P.funcs[PC]? =some fn→fn.body.isNone=true→(fn.name== "runtime.NumGoroutine")=false→Extern.findNext fn=none→Extern.find fn=some ev→∀E a w β ro,c6 E G (S.den G N B e) a w β ro→(execOp a.eval o).run P w=((ev (args.map a.eval)).run P w).andThen fun v w'=>.ok (.value v) w':=fun {ev fn} aa ae aq aT bD E a w β ro af=>by
  have hc:=af.eval f
  rw[wE]at hc;generalize he:a.eval f=BI at hc
  cases hc with
  |fn _ _ _ c d g1 g2 _ _=>
   have h3:c= #[]:=by simpa using g1
   have qM:d= #[]:=by simpa using g2
   subst h3 qM;simp only[execOp,an,resolve,he,Deferred.ofValue,Sem.run_bind,Sem.run_pure,Result.andThen_ok,invoke,Array.empty_append,Array.append_empty];exact run_callFunc_extern aa aq ae aT bD _ w
 split at h
 ·rename_i x aj ao
  cases h;unfold Ih at aj
  split at aj
  rotate_left
  ·cases aj
  rename_i fn uE
  split at aj
  ·rename_i _ zd vH
   simp only[Bool.and_eq_true]at zd;obtain⟨ad,gq⟩:=zd
   have hn:=Cr vH
   have gq:=Cr gq
   obtain⟨y,rfl⟩: ∃y,as=[y]:=by
    match as,ao with
    |[y],_=>exact⟨y,rfl⟩
   simp only[List.map_cons,List.map_nil,List.cons.injEq,and_true]at ao
   have h7:args= #[y]:=by rw[←Array.toList_inj];exact aK
   intro E a w β ro af;refine⟨a.eval y,?_,by have:=af.eval y;rw[bI hf,ao]at this;exact this⟩
   rw[start (ev:=Extern.AbiNoEscape.same) uE ad (by rw[hn];rfl) (by unfold Extern.findNext;simp only[hn,gq];rfl) (by unfold Extern.find;simp only[hn,gq];rfl) E a w β ro af,h7]
   have hm:(#[y]:Array Operand).map a.eval= #[a.eval y]:=by simp
   rw[hm];rfl
  ·cases aj
  ·cases aj
 ·rename_i x z aj ao
  split at h
  ·rename_i g1 g2
   cases h;unfold Ih at aj
   split at aj
   rotate_left
   ·cases aj
   rename_i fn uE
   split at aj
   ·cases aj
   ·rename_i zd _ vH
    simp only[Bool.and_eq_true]at zd;obtain⟨ad,gq⟩:=zd
    have hn:=Cr vH
    have gq:=Cr gq
    obtain⟨y,u,rfl⟩: ∃y u,as=[y,u]:=by
     match as,ao with
     |[y,u],_=>exact⟨y,u,rfl⟩
    simp only[List.map_cons,List.map_nil,List.cons.injEq,and_true]at ao
    have h7:args= #[y,u]:=by rw[←Array.toList_inj];exact aK
    have ax:aI G (S.den G N B e) y= .au (.v (.string (x.aH e .str))):=by rw[bI hf,ao.1];exact gG g1
    have hu:aI G (S.den G N B e) u= .au (.v (.int .u8 (z.aH e (.int .u8)))):=by rw[bI hf,ao.2];exact gG g2
    refine pK (f:=.tN) (hx 0 _ rfl) fun E a w β ro af=>?_
    refine⟨.int .i64 (tr (x.aH e .str) (z.aH e (.int .u8))),?_,.fK rfl⟩
    rw[start (ev:=Extern.BytealgIndexByte.indexByte) uE ad (by rw[hn];rfl) (by unfold Extern.findNext;simp only[hn,gq];rfl) (by unfold Extern.find;simp only[hn,gq];rfl) E a w β ro af,h7]
    have hm:(#[y,u]:Array Operand).map a.eval= #[.string (x.aH e .str),.int .u8 (z.aH e (.int .u8))]:=by simp[af.en ax,af.en hu]
    rw[hm];rw[Zc];rfl
   ·cases aj
  ·cases h
 ·cases h
theorem Ze{t:TypeId}{x i:Operand}{r:dK}(an:o.op= .indexAddr t x i)(h:Ij P S t (S.aX N x) (S.aX N i)=some r):j1 P G N B M o S r:=fun e hf hx hn=>by
 unfold Ij at h
 split at h
 ·rename_i k hi
  have gA:aI G (S.den G N B e) i=_:=(bI hf i).trans (jv hi)
  split at h
  ·rename_i n lM
   split at h
   ·rename_i id hid
    split at h
    ·rename_i bs c y ag
     split at h
     ·rename_i ad
      cases h
      have ad:=Nat.eq_of_beq_eq_true ad
      obtain⟨g1,g2⟩:=wA hf hi hn;obtain⟨j,ai⟩: ∃j:Nat,(S.aX N i).aH e (.int k)=(j:Int):=⟨_,(Int.toNat_of_nonneg g1).symm⟩;rw[ai]at gA g2
      have g2:(j:Int)<((List.length (y.aH e (.li c)):Nat):Int):=g2
      have:=Of t x i an lM gA (p:=.cE id j 0) (by
       rw[bI hf,hid];simp only[ab.den,mU,ar.den,eN,ag,Option.map_some,bC.den]
       rw[if_pos ⟨ad.symm,by rw[List.length_map];omega⟩])
      simp only[ab.den,mh hi,ai,Int.toNat_natCast];exact this
     ·cases h
    ·cases h
   ·rename_i id m hid
    split at h
    ·rename_i bt l bo j ag tX
     split at h
     ·rename_i Oj
      cases h;exact Zb an lM (k:=bo) (j:=j) (by rw[bI hf,tX];rfl) (eT Oj) (id:=id) (bt:=bt) (cs:=ab.bP G e l) (by rw[bI hf,hid];rfl) (by simp only[ar.den,eN,ag,Option.map_some,bC.den])
     ·cases h
    ·cases h
   ·split at h
    ·rename_i c hc
     split at h
     ·rename_i ad
      cases h
      have ad:=Nat.eq_of_beq_eq_true ad
      rw[ad]at lM;obtain⟨hd,Iy⟩:=Ix (G:=G) (e:=e) hc;obtain⟨g1,g2⟩:=wA hf hi hn
      have:=(O8 c _ k _ an lM gA ((bI hf x).trans hd) g1 g2).v
      have aS:Env.at e S.k=_:=hx 0 _ rfl
      have aa:=PB (G:=G) (x:=List.getD ((S.aX N x).aH e (.li c)) (Int.toNat ((S.aX N i).aH e (.int k))) (fJ c)) aS
      show cT P G o _ ((ab.ip c S.k 0).den G e);rw[aa];exact this
     ·cases h
    ·split at h
     ·rename_i c r1 _
      cases h
      have kA:=hn _ (List.mem_singleton.2 rfl)
      have br:(S.aX N x).aH e (.li c)=[]:=by
       unfold ab.isNil at r1
       split at r1
       ·rename_i aJ
        simp only[aJ,ab.aH,ab.fG,cQ]
       ·cases r1
      simp only[fE.ok,b4.wg,br]at kA
      have ae:(S.aX N i).aH e (.int k)<((List.length ([]:List (fZ c)):Nat):Int):=kA.2
      have aq:0≤(S.aX N i).aH e (.int k):=kA.1
      exact absurd (Int.lt_of_le_of_lt aq ae) (Int.lt_irrefl _)
     ·cases h
  ·split at h
   ·rename_i len n l aK ao
    have fu:=za (G:=G) (N:=N) (B:=B) (e:=e) ao
    rw[←bI (B:=B) hf]at fu
    split at h
    ·rename_i bo j ai
     split at h
     ·rename_i p dP ak
      cases h
      have dP:=eT dP
      refine Hf t x i an aK (k:=bo) (j:=j) (by rw[bI hf,ai];rfl) dP fu ?_
      have ah:=zb (G:=G) (e:=e) ak
      rw[←ah,←bI (N:=N) (B:=B) hf];revert fu
      cases aI G (S.den G N B e) x<;>intro fu<;>first|(simp[fc]at fu;done)|skip
      all_goals rename_i y
      ·cases y<;>first|(simp[fc]at fu;done)|rfl
      ·rfl
      ·rfl
     ·cases h
    ·rename_i id off hid _
     cases h
     have kA:0≤cc ((S.aX N i).dyn e)∧cc ((S.aX N i).dyn e)<(len:Int):=Cj hf hn
     obtain⟨j,ai⟩: ∃j:Nat,cc ((S.aX N i).dyn e)=(j:Int):=⟨_,(Int.toNat_of_nonneg kA.1).symm⟩;rw[←mh hi,ai]at gA;refine Hf t x i an aK gA (by omega) fu ?_
     rw[bI hf,hid];simp only[ab.den,iO,ai,Int.toNat_natCast]
    ·cases h
   ·cases h
 ·cases h
theorem Zf{t:TypeId}{x:Operand}{r:dK}(an:o.op= .load t x)(h:Ik P S t (S.aX N x)=some r):j1 P G N B M o S r:=fun e hf hx hn=>by
 unfold Ik at h
 split at h
 ·rename_i id i off ak
  split at h
  ·rename_i bs c y k ag hi
   split at h
   ·rename_i v av ax
    cases h;obtain⟨g1,g2⟩:=wA hf hi hn
    have aS:Env.at e S.k=⟨.st c,List.getD (y.aH e (.li c)) (i.aH e (.int k)).toNat (fJ c)⟩:=hx 0 _ rfl
    refine Px an ?_ av
    rw[bI hf,ak];simp only[ab.den,fc,ar.den,eN,ag,Option.map_some,bC.den,mh hi];rw[List.getElem?_map,getD_at g1 g2]
    simp only[Option.map_some,Option.some.injEq];rw[Ia,wc,aS,cQ,List.map_drop]
   ·cases h
  ·cases h
 ·rename_i id off i ak
  split at h
  ·rename_i bs l k ag hi
   split at h
   ·rename_i q aJ
    split at h
    ·rename_i aK
     cases h;simp only[Bool.and_eq_true]at aK
     have kA:0≤cc (i.dyn e)∧cc (i.dyn e)<((l.drop off).length:Int):=Cj hf hn
     obtain⟨j,ai⟩: ∃j:Nat,cc (i.dyn e)=(j:Int):=⟨_,(Int.toNat_of_nonneg kA.1).symm⟩
     have dP:j<(l.drop off).length:=by omega
     have av:(l.drop off)[j]? =some (l.drop off)[j]:=List.getElem?_eq_getElem dP
     have hd:(l.drop off).drop j=(l.drop off)[j]::(l.drop off).drop (j+1):=List.drop_eq_getElem_cons dP
     have:=GO t x an aK.2.2 (y:=((l.drop off)[j]).den G e) (cs:=ab.bP G e ((l.drop off).drop (j+1))) (s:=S.den G N B e) (G:=G) (by
      rw[bI hf,ak];simp only[ab.den,fc,ar.den,eN,ag,Option.map_some,bC.den,ai,Int.toNat_natCast,Nat.mul_one,Option.some.injEq];rw[←Ia,←List.drop_drop,hd]
      rfl)
     refine this.sub ?_
     have aS:Env.at e S.k=_:=hx 0 _ rfl
     simp only[ab.den,aS,bQ.den,cQ,ai,Int.toNat_natCast];exact Iw aK.1 av
    ·cases h
   ·cases h
  ·cases h
 ·split at h
  ·rename_i l ao
   split at h
   ·rename_i v av
    cases h;refine Px an ?_ av
    rw[bI hf];exact za ao
   ·cases h
  ·cases h
theorem Zg{t:TypeId}{x:Operand}{r:dK}(an:o.op= .call {callee:=.builtin .len,args:=#[x],argTypes:=#[t]})(h:Il P S t (S.aX N x)=some r):j1 P G N B M o S r:=fun e hf hx hn=>by
 unfold Il at h
 split at h
 ·rename_i ak
  split at h
  ·rename_i aG
   cases h;exact Hd x t an aG (m:=0) (by rw[bI hf,ak];rfl)
  ·cases h
 ·rename_i b ak
  split at h
  ·rename_i aG
   cases h;exact He x t an (uc aG) (by rw[bI hf,ak];rfl)
  ·cases h
 ·rename_i id n ak
  split at h
  ·rename_i bt l ag aG
   cases h;exact Za an aG (id:=id) (bt:=bt) (cs:=ab.bP G e l) (by rw[bI hf,ak];rfl) (by simp only[ar.den,eN,ag,Option.map_some,bC.den])
  ·cases h
 ·rename_i id ak
  split at h
  ·rename_i bs c y ag
   split at h
   ·rename_i aG
    cases h;refine pL (f:=.iA c) (hx 0 _ rfl) (Hd x t an aG (m:=List.length (y.aH e (.li c))) ?_)
    rw[bI hf,ak];simp only[ab.den,lF,ar.den,eN,ag,Option.map_some,bC.den,List.length_map]
   ·cases h
  ·cases h
 ·split at h
  ·rename_i af
   split at h
   ·rename_i aG
    cases h;exact pL (f:=.nL) (hx 0 _ rfl) (He x t an (uc aG) ((bI hf x).trans (gG af)))
   ·cases h
  ·rename_i c af
   split at h
   ·rename_i aG
    cases h;exact pL (f:=.iA c) (hx 0 _ rfl) (YI c _ an aG ((bI hf x).trans (gG af)))
   ·cases h
  ·split at h
   ·rename_i n Iz
    cases h;exact Od x t an Iz
   ·cases h
theorem wF{e:Env}(hf: ∀c∈S.g,c.ok e){lo:Option Operand}{l:Option ab}(h:wD N S lo=some l):y5 G (S.den G N B e) lo (nM e l):=by
 unfold wD at h
 split at h
 ·cases h;trivial
 ·split at h
  ·rename_i y k af
   cases h;exact⟨k,by rw[bI hf,jv af,mh af]⟩
  ·cases h
theorem Zh{t:TypeId}{x:Operand}{lo hi:Option Operand}{r:dK}(an:o.op= .slice t x lo hi none)(h:Im P N S t (S.aX N x) lo hi=some r):j1 P G N B M o S r:=fun e hf hx hn=>by
 unfold Im at h
 split at h
 ·rename_i l h' ao a8
  split at h
  ·rename_i af
   split at h
   ·rename_i aG
    cases h
    have aS:Env.at e S.k=_:=hx 0 _ rfl
    simp only[ab.den,aS,bQ.den,cQ];refine YX _ an (uc aG) ((bI hf x).trans (gG af)) (wF hf ao) (wF hf a8) ?_
    cases l<;>cases h'<;>first|trivial|exact hn _ (List.mem_singleton.2 rfl)
   ·cases h
  ·rename_i c af
   split at h
   ·rename_i n lM
    split at h
    ·rename_i ad
     cases h;rw[Nat.eq_of_beq_eq_true ad]at lM
     have aS:Env.at e S.k=_:=hx 0 _ rfl
     simp only[ab.den,aS,bQ.den,cQ];refine(Pp c _ an lM ((bI hf x).trans (gG af)) (wF hf ao) (wF hf a8) ?_).v
     cases l<;>cases h'<;>first|trivial|exact hn _ (List.mem_singleton.2 rfl)
    ·cases h
   ·cases h
  ·cases h
 ·cases h
theorem Zi{src dst:TypeId}{x:Operand}{r:dK}(an:o.op= .convert src dst x)(h:Io P S src dst (S.aX N x)=some r):j1 P G N B M o S r:=fun e hf hx hn=>by
 unfold Io at h
 split at h
 ·rename_i id hid
  unfold Pz at h
  split at h
  ·rename_i bs y el ag ah
   split at h
   ·rename_i hu hd
    cases h;refine pL (f:=.cx) (hx 0 _ rfl) (HO src dst el x an ah hu hd (l:=y.aH e (.li .u8)) ?_)
    rw[bI hf,hid];simp only[ab.den,h8,ar.den,eN,ag,Option.map_some,bC.den];rfl
   ·cases h
  ·cases h
 rename_i IA
 split at h
 ·rename_i k af
  split at h
  ·rename_i ah hd
   cases h;exact pL (f:=.qU k _) (hx 0 _ rfl) (Ow src dst x an (by rw[ah];rfl) hd ((bI hf x).trans (jv af)))
  ·cases h
 ·rename_i af
  split at h
  ·rename_i el ah
   split at h
   ·rename_i hu hd
    cases h;refine pL (f:=.cx) (hx 0 _ rfl) (HO src dst el x an ah hu hd (l:=(S.aX N x).aH e (.li .u8)) ?_)
    rw[bI hf,gG af];rfl
   ·cases h
  ·cases h
 ·cases h
theorem Zj{op:UnOp}{t:TypeId}{x:Operand}{r:dK}(an:o.op= .unOp op t x)(h:Ip S op (S.aX N x)=some r):j1 P G N B M o S r:=fun e hf hx hn=>by
 unfold Ip at h
 split at h
 ·rename_i af
  cases h;exact pL (f:=.mZ) (hx 0 _ rfl) (N1 t x an ((bI hf x).trans (gG af)))
 ·rename_i k af
  cases h;exact pL (f:=.yV k) (hx 0 _ rfl) (N2 t x an ((bI hf x).trans (jv af)))
 ·rename_i k af
  cases h
  have gF:aI G (S.den G N B e) x=_:=(bI hf x).trans (jv af)
  exact pL (f:=.tM k) (hx 0 _ rfl) fun _ a6 w β ro h=>⟨_,by simp[execOp,an,h.en gF,Op.unary,Op.intBits,eQ.den,aL.jf],.fK rfl⟩
 ·cases h
theorem Zk{t:TypeId}{ps:Array (Nat × Operand)}{r:dK}(an:o.op= .build t ps)(h:Iq P N S t ps.toList=some r):j1 P G N B M o S r:=fun e hf hx hn=>by
 unfold Iq at h
 split at h
 ·rename_i pl zs pj br
  split at h
  ·rename_i ad
   simp only[Bool.and_eq_true]at ad
   split at h
   ·rename_i ds hd
    cases h
    have aa:=Cl (G:=G) (e:=e) ad.2 hd
    have ae:ab.bP G e (zs.map .cs)=zs.map fun z=>.au (.v z):=by rw[eD,List.map_map];rfl
    rw[ae]at aa
    have aq:(ps.toList.map fun p=>(p.1,aI G (S.den G N B e) p.2))=(ps.toList.map fun p=>(p.1,S.aX N p.2)).map fun p=>(p.1,p.2.den G e):=by
     rw[List.map_map];exact List.map_congr_left fun p _=>by simp[bI hf]
    refine Om t ps an pj br ad.1 aq ?_ aa
    rw[List.all_map];refine List.all_eq_true.2 fun p ak=>?_
    have:=List.all_eq_true.1 ad.2 p ak
    simp only[Function.comp];rw[uA this];exact wC this
   ·cases h
  ·cases h
 ·cases h
theorem Zl{t:TypeId}{x:Operand}{f:Nat}{r:dK}(an:o.op= .field t x f)(h:Ir P t (S.aX N x) f=some r):j1 P G N B M o S r:=fun e hf hx hn=>by
 unfold Ir at h
 split at h
 ·rename_i l off ao ak
  split at h
  ·rename_i v av
   cases h;exact Oh t x f an ak (by rw[bI hf,ao];rfl) (Cq av)
  ·cases h
 ·rename_i l off n ao ak
  split at h
  ·rename_i ad
   cases h
   have:=Oi t x f an ak (s:=S.den G N B e) (G:=G) (cs:=ab.bP G e l) (by rw[bI hf,ao];rfl) (by rw[ng];exact Nat.le_of_ble_eq_true ad)
   simp only[ab.den];rw[eD,List.map_take,List.map_drop,←eD];exact this
  ·cases h
 ·cases h
theorem Zm{b:Builtin}{x y:Operand}{ts:Array TypeId}{r:dK}(an:o.op= .call {callee:=.builtin b,args:=#[x,y],argTypes:=ts})(h:Is S b (S.aX N x) (S.aX N y)=some r):j1 P G N B M o S r:=fun e hf hx hn=>by
 unfold Is at h
 split at h
 ·rename_i k bo aa ae
  split at h
  ·rename_i aj
   cases h
   have aj:=of_decide_eq_true aj
   subst aj;exact pK (f:=.tO k) (hx 0 _ rfl) (Ox x y ts an ((bI hf x).trans (jv aa)) ((bI hf y).trans (jv ae)))
  ·cases h
 ·rename_i k bo aa ae
  split at h
  ·rename_i aj
   cases h
   have aj:=of_decide_eq_true aj
   subst aj;exact pK (f:=.mx k) (hx 0 _ rfl) (Oy x y ts an ((bI hf x).trans (jv aa)) ((bI hf y).trans (jv ae)))
  ·cases h
 ·cases h
theorem Zn{t:TypeId}(h:Cn P t=true): ∃jw i,P.underlying t=some (.pointer jw)∧P.info? jw=some i∧i.size≠0:=by
 unfold Cn at h
 split at h
 ·rename_i e hu
  cases hi:P.info? e with
  |none=>rw[hi]at h;cases h
  |some i=>
   rw[hi]at h;simp only[Option.isSome_some,Bool.true_and,Option.map_some]at h;refine⟨e,i,hu,hi,fun br=>?_⟩
   rw[br]at h;cases h
 ·cases h
theorem IB{id:Nat}{e:Env}(h:zc S id=true): ∃t cs,aE (S.den G N B e).heap id=some (.box t cs):=by
 unfold zc at h
 split at h
 ·rename_i t l ag
  exact⟨t,ab.bP G e l,by simp only[ar.den,eN,ag,Option.map_some,bC.den]⟩
 ·cases h
theorem PD{s:aM}{b:Bool}{g:ab}{r:dK}{e:Env}(h:Co S b g=some r)(hx: ∀(j:Nat) (x:bQ),r.xs[j]? =some x→Env.at e (S.k+j)=x.den M e)(ah:cT P G o s (.au (.v (.bool (bif b then g.aH e .bool else !(g.aH e .bool)))))):cT P G o s (r.v.den G e):=by
 unfold Co at h
 split at h
 ·rename_i af
  cases h
  have:=gG (G:=G) (e:=e) af
  show cT P G o s (g.den G e);rw[this];exact ah
 ·rename_i af
  cases h;exact pL (f:=.mZ) (hx 0 _ rfl) ah
 ·cases h
theorem Zo{tp jw:TypeId}{j:TypeInfo}(w:World)(a:Addr)(ak:P.underlying tp=some (.pointer jw))(Zp:P.info? jw=some j):(Op.equal tp (.pointer (some a)) (.pointer (some a))).run P w= .ok true w:=by
 have h: ∀d:Nat,(Op.equalIn (d+1) tp (.pointer (some a)) (.pointer (some a))).run P w= .ok true w:=fun d=>by
  simp[Op.equalIn,run_underlying ak,sizeOf,typeInfo,Zp,run_sameAddr_same]
 exact h 9999
theorem eq_nil{tp jw:TypeId}(w:World)(q:Option Addr)(ak:P.underlying tp=some (.pointer jw)):(Op.equal tp (.pointer none) (.pointer q)).run P w= .ok q.isNone w:=by
 have h: ∀d:Nat,(Op.equalIn (d+1) tp (.pointer none) (.pointer q)).run P w= .ok q.isNone w:=fun d=>by
  cases q<;>simp[Op.equalIn,run_underlying ak]
 exact h 9999
theorem Cs{s:aM}{op:BinOp}{ck ty:TypeId}{x y:Operand}{b c:Bool}(an:o.op= .binOp op ck x y ty)(aG:Cn P ck=true)(ad:It op=some b)
 (h: ∀E a w β ro,c6 E G s a w β ro→∃p q,a.eval x= .pointer p∧a.eval y= .pointer q∧((q=none∧c=p.isNone)∨(p=none∧c=q.isNone)∨(∃cP,p=some cP∧q=some cP∧c=true))):cT P G o s (.au (.v (.bool (bif b then c else !c)))):=
 fun E a w β ro af=>by
  obtain⟨jw,i,hu,hi,bJ⟩:=Zn aG;obtain⟨p,q,aa,ae,aq⟩:=h E a w β ro af;refine⟨.bool (bif b then c else !c),?_,.fK rfl⟩
  have Zq:P.underlying ck=some (.pointer (P.pointee ck)):=by rw[hu];simp[Program.pointee,hu]
  have heq:(Op.equal ck (.pointer p) (.pointer q)).run P w= .ok c w:=by
   rcases aq with⟨rfl,rfl⟩|⟨rfl,rfl⟩|⟨cP,rfl,rfl,rfl⟩
   ·exact run_equal_pointer_nil w ck p Zq
   ·exact eq_nil w q hu
   ·exact Zo w cP hu hi
  unfold It at ad
  split at ad
  ·cases ad
   have:(binOp .eql ck (.pointer p) (.pointer q)).run P w= .ok (.bool c) w:=by
    simp only[binOp];simp[heq]
   simp[execOp,an,aa,ae,eqGuard_at_pointer,this]
  ·cases ad
   have:(binOp .neq ck (.pointer p) (.pointer q)).run P w= .ok (.bool (!c)) w:=by
    simp only[binOp];simp[heq]
   simp[execOp,an,aa,ae,eqGuard_at_pointer,this]
  ·cases ad
theorem ze{E:Entry}{s:aM}{a:Act}{w:World}{β:Nat→Value}{ro:Nat→Prop}{x:Operand}(af:c6 E G s a w β ro)(hx:aI G s x= .au (.v (.pointer none))):a.eval x= .pointer none:=af.en hx
theorem uF{E:Entry}{s:aM}{a:Act}{w:World}{β:Nat→Value}{ro:Nat→Prop}{x:Operand}{id off:Nat}{t:TypeId}{cs:List aD}(af:c6 E G s a w β ro)(hx:aI G s x= .ptr id off)(ag:aE s.heap id=some (.box t cs)):
 ∃b,β id= .pointer (some ⟨b,0,none⟩)∧a.eval x= .pointer (some ⟨b,off,none⟩):=by
 have h:=af.eval x
 rw[hx]at h
 generalize hc:a.eval x=c at h
 cases h with
 |ptr _ _ _ ao ak=>exact ak _ _ ag
theorem Zr{op:BinOp}{ck ty:TypeId}{x y:Operand}{r:dK}(an:o.op= .binOp op ck x y ty)(h:Iu P S op ck (S.aX N x) (S.aX N y)=some r):j1 P G N B M o S r:=fun e hf hx hn=>by
 unfold Iu at h
 split at h
 rotate_left
 ·cases h
 rename_i b aG ad
 split at h
 ·rename_i aa ae
  cases h
  have:=Cs (G:=G) (s:=S.den G N B e) (c:=true) an aG ad fun E a w β ro af=>⟨none,none,ze af (by rw[bI hf,aa];rfl),ze af (by rw[bI hf,ae];rfl),.inl ⟨rfl,rfl⟩⟩
  cases b<;>exact this
 ·rename_i i q j gx aa ae
  split at h
  ·rename_i hc
   cases h;simp only[Bool.and_eq_true]at hc;obtain⟨⟨aA,et⟩,gQ⟩:=hc
   have aA:=Nat.eq_of_beq_eq_true aA
   have et:=Nat.eq_of_beq_eq_true et
   subst aA et;obtain⟨bt,cs,ag⟩:=IB (G:=G) (N:=N) (B:=B) (e:=e) gQ
   have:=Cs (G:=G) (s:=S.den G N B e) (c:=true) an aG ad fun E a w β ro af=>by
    obtain⟨eY,g1,g2⟩:=uF af (by rw[bI hf,aa];rfl) ag
    obtain⟨gH,g3,g4⟩:=uF af (by rw[bI hf,ae];rfl) ag
    rw[g1]at g3
    cases g3
    exact⟨_,_,g2,g4,.inr (.inr ⟨_,rfl,rfl,rfl⟩)⟩
   cases b<;>exact this
  ·cases h
 ·rename_i g i off aa ae
  split at h
  ·rename_i hc
   obtain⟨bt,cs,ag⟩:=IB (G:=G) (N:=N) (B:=B) (e:=e) hc;refine PD h hx ?_
   have:=Cs (G:=G) (s:=S.den G N B e) (c:=!(g.aH e .bool)) an aG ad fun E a w β ro af=>by
    have PE:a.eval y= .pointer none:=ze af (by rw[bI hf,ae];rfl)
    have hd:aI G (S.den G N B e) x=(ab.eV g (some i) off).den G e:=by rw[bI hf,aa]
    simp only[ab.den]at hd
    cases ss:g.aH e .bool with
    |true=>
     rw[ss]at hd;obtain⟨eY,g1,g2⟩:=uF af hd ag;exact⟨_,_,g2,PE,.inl ⟨rfl,rfl⟩⟩
    |false=>
     rw[ss]at hd;exact⟨_,_,ze af hd,PE,.inl ⟨rfl,rfl⟩⟩
   cases b<;>simpa using this
  ·cases h
 ·rename_i g i q j gx aa ae
  split at h
  ·rename_i hc
   simp only[Bool.and_eq_true]at hc;obtain⟨⟨aA,et⟩,gQ⟩:=hc
   have aA:=Nat.eq_of_beq_eq_true aA
   have et:=Nat.eq_of_beq_eq_true et
   subst aA et;obtain⟨bt,cs,ag⟩:=IB (G:=G) (N:=N) (B:=B) (e:=e) gQ;refine PD h hx ?_
   refine Cs (G:=G) (s:=S.den G N B e) (c:=g.aH e .bool) an aG ad fun E a w β ro af=>?_
   obtain⟨gH,g3,g4⟩:=uF af (by rw[bI hf,ae];rfl) ag
   have hd:aI G (S.den G N B e) x=(ab.eV g (some i) q).den G e:=by rw[bI hf,aa]
   simp only[ab.den]at hd
   cases ss:g.aH e .bool with
   |true=>
    rw[ss]at hd;obtain⟨eY,g1,g2⟩:=uF af hd ag;rw[g1]at g3
    cases g3
    exact⟨_,_,g2,g4,.inr (.inr ⟨_,rfl,rfl,rfl⟩)⟩
   |false=>
    rw[ss]at hd;exact⟨_,_,ze af hd,g4,.inr (.inl ⟨rfl,rfl⟩)⟩
  ·cases h
 ·cases h
theorem PF{E:Entry}{s:aM}{a:Act}{w:World}{β:Nat→Value}{ro:Nat→Prop}{id off b:Nat}{t:TypeId}{cs:List aD}(af:c6 E G s a w β ro)(ag:aE s.heap id=some (.box t cs))(ad:β id= .pointer (some ⟨b,0,none⟩))(ao:off<cs.length):
 ∃arr v,w.heap[b]? =some (.cells arr t (0,0))∧arr.size=cs.length∧w.cell? ⟨b,off,none⟩=some v:=by
 have dq:=af.heap.c4 id _ ag
 cases dq with
 |box _ _ gm arr aa ae aq aT=>
  rw[ad]at aa;simp only[Value.pointer.injEq,Option.some.injEq,Addr.mk.injEq,and_true]at aa;subst aa;refine⟨arr,arr[off]'(by omega),ae,aq,?_⟩
  have bA:off<arr.size:=by omega
  simp[World.cell?,ae,bA]
theorem Zs{src dst:TypeId}{x:Operand}{r:dK}(an:o.op= .convert src dst x)(h:Iv P S src dst (S.aX N x)=some r):j1 P G N B M o S r:=fun e hf hx hn=>by
 unfold Iv at h
 split at h
 rotate_left
 ·cases h
 rename_i id off av
 have hd:aI G (S.den G N B e) x= .ptr id off:=by rw[bI hf,av];rfl
 split at h
 ·rename_i bt l t ag ah r7
  split at h
  ·rename_i br bA
   cases h;rw[av]
   have a8:aE (S.den G N B e).heap id=some (.box bt (ab.bP G e l)):=by simp only[ar.den,eN,ag,Option.map_some,bC.den]
   intro E a w β ro af;obtain⟨b,ad,he⟩:=uF af hd a8;obtain⟨arr,v,_,_,hc⟩:=PF (off:=off) af a8 ad (by rw[ng];exact eT bA)
   refine⟨.pointer (some ⟨b,off,none⟩),?_,by have:=af.eval x;rw[hd,he]at this;exact this⟩
   simp only[execOp,an,he,Sem.run_bind,run_convert_to_unsafe ah r7 br hc,Result.andThen_ok,Sem.run_pure]
  ·cases h
 ·rename_i bt l u ag ah r7
  split at h
  ·rename_i wG bA
   cases h;rw[av]
   have a8:aE (S.den G N B e).heap id=some (.box bt (ab.bP G e l)):=by simp only[ar.den,eN,ag,Option.map_some,bC.den]
   intro E a w β ro af;obtain⟨b,ad,he⟩:=uF af hd a8;obtain⟨arr,v,fe,bJ,hc⟩:=PF (off:=off) af a8 ad (by rw[ng];exact eT bA)
   refine⟨.pointer (some ⟨b,off,none⟩),?_,by have:=af.eval x;rw[hd,he]at this;exact this⟩
   rw[ng]at bJ
   have PG:w.shape? b=some (bt,l.length):=by simp[World.shape?,fe,bJ]
   have Zt:(convert src dst (.pointer (some ⟨b,off,none⟩))).run P w= .ok (.pointer (some ⟨b,off,none⟩)) w:=by
    rw[Bool.and_eq_true]at wG;obtain⟨i,hi⟩:=Option.isSome_iff_exists.1 wG.2
    have wG:=wG.1
    by_cases br:i.size=0
    ·simp[convert,Conv.unsafePointer,Conv.seenAt,viewAt,variablesAt,sizeOf,typeInfo,run_underlying ah,run_underlying r7,hi,br,PG,wG,Result.andThen]
    ·simp[convert,Conv.unsafePointer,Conv.seenAt,viewAt,variablesAt,sizeOf,typeInfo,run_underlying ah,run_underlying r7,hi,br,PG,wG,Result.andThen]
   simp only[execOp,an,he,Sem.run_bind,Zt,Result.andThen_ok,Sem.run_pure]
  ·cases h
 ·cases h
theorem uG{r:dK}(h:pN P N S o=some r):j1 P G N B M o S r:=by
 unfold pN at h
 split at h
 ·rename_i x an
  cases h;exact .nil fun e hf=>by have:=Nu (P:=P) (G:=G) (s:=S.den G N B e) x an;rw[bI hf]at this;exact this
 ·rename_i x an
  cases h;exact .nil fun e hf=>by have:=Nv (P:=P) (G:=G) (s:=S.den G N B e) x an;rw[bI hf]at this;exact this
 ·exact Y8 (by assumption) h
 ·rename_i x i an
  split at h
  ·rename_i l ao
   split at h
   ·rename_i v av
    cases h;exact .nil fun e hf=>N3 x i an (by rw[bI hf,ao];rfl) (Cq av)
   ·cases h
  ·cases h
 ·rename_i x an
  split at h
  ·rename_i ak
   cases h
   exact .nil fun e hf=>by
    have:=NA (P:=P) (G:=G) (s:=S.den G N B e) x an (by rw[bI hf];exact uB ak)
    rw[bI hf]at this;exact this
  ·cases h
 ·rename_i t x f an
  split at h
  ·rename_i k aj ak
   split at h
   ·rename_i p ah
    cases h
    exact .nil fun e hf=>by
     have:=Nz (P:=P) (G:=G) (s:=S.den G N B e) t x f an aj (by rw[bI hf];exact uB ak)
     rw[bI hf,zb ah]at this;exact this
   ·cases h
  ·cases h
 ·exact Zf (by assumption) h
 ·exact Zl (by assumption) h
 ·exact Ze (by assumption) h
 ·exact Y9 (by assumption) h
 ·split at h
  ·rename_i aJ
   cases h;exact Y6 (by assumption) aJ
  ·exact Zr (by assumption) h
 ·exact Zj (by assumption) h
 ·split at h
  ·rename_i aJ
   cases h;exact Zi (by assumption) aJ
  ·exact Zs (by assumption) h
 ·exact Zk (by assumption) h
 ·rename_i f p q an
  cases h
  exact .nil fun e hf=>by
   have:=XV (P:=P) (G:=G) (s:=S.den G N B e) an
   simp only[ab.den];rw[eD,eD,List.map_map,List.map_map]
   have aa: ∀l:List Operand,l.map (aI G (S.den G N B e))=l.map (ab.den G e∘S.aX N):=fun l=>List.map_congr_left fun x _=>bI hf x
   rw[aa,aa]at this;exact this
 ·exact Zh (by assumption) h
 ·rename_i c an
  split at h
  ·rename_i x t hc hx aG
   obtain⟨callee,args,ts⟩:=c;simp only at hc hx aG;rw[hc,OZ hx,OZ aG]at an;exact Zg an h
  ·rename_i b x y hc hx
   obtain⟨callee,args,ts⟩:=c;simp only at hc hx;rw[hc,yN hx]at an;exact Zm an h
  ·rename_i f hc
   obtain⟨callee,args,ts⟩:=c;simp only at hc;rw[hc]at an;exact Zd an rfl h
  ·cases h
 ·cases h
end
end Go.aL
namespace Go.aL
open Go
def Ct:ej→ej→Prop
 | .box _ _,.box _ _=>True
 | .row _ _ n _,.row _ _ m _=>n=m
 | .bY _,.bY _=>True
 |_,_=>False
section
variable {w w':World} {ro ro':Nat→Prop} {σ e8:bz} {β dR:Nat→Value} {N od:Nat}
theorem bp.move{x:aD}{c:Value}(h:bp w ro σ β N x c)(hw: ∀b,ro b→w'.heap[b]? =w.heap[b]?)(b6: ∀b,ro b→ro' b)(ha:N≤od)
 (aj: ∀id o,id<N→aE e8 id=some o→dR id=β id∧∃cl,aE σ id=some cl∧Ct cl o):bp w' ro' e8 dR od x c:=by
 induction h with
 |au x c hx=>exact .au x c (hx.keep hw b6)
 |agg cs c ah _ aQ=>exact .agg cs c ah aQ
 |tuple cs c ah _ aQ=>exact .tuple cs c ah aQ
 |ptr id off c ao ak=>
  refine .ptr id off c (by omega) fun t cs ag=>?_
  obtain⟨ad,cl,dN,ah⟩:=aj id _ ao ag
  cases cl with
  |box bs cs'=>
   obtain⟨b,aa,ae⟩:=ak bs cs' dN;exact⟨b,ad.trans aa,ae⟩
  |_=>exact ah.elim
 |dB id off c ao ak=>
  refine .dB id off c (by omega) fun t cs ag=>?_
  obtain⟨ad,cl,dN,ah⟩:=aj id _ ao ag
  cases cl with
  |box bs cs'=>
   obtain⟨b,aa,ae⟩:=ak bs cs' dN;exact⟨b,ad.trans aa,ae⟩
  |_=>exact ah.elim
 |cE id i off c ao ak=>
  refine .cE id i off c (by omega) fun z t n es ag=>?_
  obtain⟨ad,cl,dN,ah⟩:=aj id _ ao ag
  cases cl with
  |row h5 bs cO eu=>
   have ah:cO=n:=ah
   subst ah;obtain⟨b,l,iq,aa,ae⟩:=ak h5 bs cO eu dN;exact⟨b,l,iq,ad.trans aa,ae⟩
  |_=>exact ah.elim
 |aN id c ao ak=>
  refine .aN id c (by omega) fun z t n es ag=>?_
  obtain⟨ad,cl,dN,ah⟩:=aj id _ ao ag
  cases cl with
  |row h5 bs cO eu=>rw[ad];exact ak h5 bs cO eu dN
  |_=>exact ah.elim
 |fn f p q c d aa ae _ _ gL gM=>exact .fn f p q c d aa ae gL gM
 |ref id c ao ak=>
  refine .ref id c (by omega) fun bE ag=>?_
  obtain⟨ad,cl,dN,ah⟩:=aj id _ ao ag
  cases cl with
  |bY lz=>rw[ad];exact ak lz dN
  |_=>exact ah.elim
 |top c=>exact .top c
end
section
variable {P:Program} {G:aY} {s:aM} {E:Entry} {a:Act} {w w':World} {β:Nat→Value} {ro:Nat→Prop}
variable {o:Oper}
theorem PH{x:Operand}{xs:Array Operand}{f:Fn}{p q:List aD}{c d:Array Value}(h:c6 E G s a w β ro)(aa:c.size=p.length)(ae:d.size=q.length)(lh: ∀(j:Nat) (x:aD),p[j]? =some x→bp w ro s.heap β s.next x (c.getD j undef))(zf: ∀(j:Nat) (x:aD),q[j]? =some x→bp w ro s.heap β s.next x (d.getD j undef)):
 ∀(i:Nat) (y:aD),(p++xs.toList.map (aI G s)++q)[i]? =some y→bp w ro s.heap β s.next y ((c++xs.map a.eval++d).getD i undef):=fun i y ax=>by
 rw[Array.getD_eq_getD_getElem?]
 rcases Nat.lt_or_ge i (p.length+xs.size)with hi|hi
 ·rw[List.getElem?_append_left (by simpa using hi)]at ax
  rw[Array.getElem?_append_left (by simpa[aa]using hi)]
  rcases Nat.lt_or_ge i p.length with jF|jF
  ·rw[List.getElem?_append_left jF]at ax
   rw[Array.getElem?_append_left (by omega),←Array.getD_eq_getD_getElem?]
   exact lh i y ax
  ·rw[List.getElem?_append_right jF,List.getElem?_map]at ax
   rw[Array.getElem?_append_right (by omega),aa]
   cases br:xs.toList[i-p.length]? with
   |none=>simp[br]at ax
   |some z=>
    simp only[br,Option.map_some,Option.some.injEq]at ax;subst ax
    have uj:xs[i-p.length]? =some z:=by simpa using br
    simp only[Array.getElem?_map,uj,Option.map_some,Option.getD_some]
    exact h.eval z
 ·rw[List.getElem?_append_right (by simpa using hi)]at ax
  rw[Array.getElem?_append_right (by simpa[aa]using hi),←Array.getD_eq_getD_getElem?]
  have:=zf _ y ax
  simpa[aa]using this
theorem Zu{x:Operand}{xs:Array Operand}{ts:Array TypeId}(an:o.op= .call {callee:=.value x,args:=xs,argTypes:=ts}){f:FuncId}{p q:List aD}(hx:aI G s x= .fn (.func f) p q)(gf:mT P f=true)
 {R:aD→bz→Prop}(hc:dI P G f (p++xs.toList.map (aI G s)++q) s.heap s.next R){bh:aM→Prop}
 (gC: ∀r bO,R r bO→∃m,s.next≤m∧gd m r=true∧k5 m bO=true∧(∀id o,id<s.next→aE bO id=some o→∃cl,aE s.heap id=some cl∧Ct cl o)∧bh (aM.put ⟨s.cC,bO,m,s.base⟩ o.dst r)):
 ∀(E:Entry) (a:Act) (w:World),Rel E G s a w→∀(K:Act→World→Prop) (Q:Exit→Act→World→Prop),(∀t,bh t→∀a6 w',Rel E G t a6 w'→K a6 w')→o.wp P a w K Q:=by
 intro E a w ⟨β,ro,h⟩ K Q hK
 have jo:=h.eval x
 rw[hx]at jo
 generalize he:a.eval x=BI at jo
 cases jo with
 |fn _ _ _ c d aa ae lh zf=>
  unfold Oper.wp;simp only[execOp,an,resolve,he,Deferred.ofValue,Sem.run_bind,Sem.run_pure,Result.andThen_ok,invoke];rw[BG gf]
  have gO:=hc w β ro (c++xs.map a.eval++d) (by simp[aa,ae,Nat.add_assoc]) (PH (x:=x) (f:=.func f) h aa ae lh zf) h.heap h.hT h.trans.new
  refine Calls.mono gO fun e w' aJ=>?_
  obtain⟨v,r,bO,dR,ro',cO,rfl,af,dk,hs,cq⟩:=aJ;obtain⟨m,hm,Zv,PI,yg,e1⟩:=gC r bO af
  have hw: ∀b,ro b→w'.heap[b]? =w.heap[b]? :=fun b ad=>cq.frame b (h.heap.lt b ad) (h.heap.ft b ad)
  have b6: ∀b,ro b→ro' b:=cq.jL
  have aj: ∀id o,id<s.next→aE bO id=some o→dR id=β id∧∃cl,aE s.heap id=some cl∧Ct cl o:=fun id o bA ag=>⟨(cq.dE id bA o ag).2,yg id o bA ag⟩
  have ga:c6 E G ⟨s.cC,bO,m,s.base⟩ a w' dR ro':=by
   refine⟨h.defers,h.size,fun i x hx=>(h.slot i x hx).move hw b6 hm aj,⟨fun id o ag=>?_,hs.inj,hs.ft,hs.lt⟩,h.hT.keep hw b6,?_,h.base⟩
   ·obtain⟨_,yt⟩:=qL PI ag
    cases hs.c4 id o ag with
    |box t cs b arr ay aV ct eA=>exact .box t cs b arr ay aV ct fun j x ai=>(eA j x ai).lower (qK (yt t cs rfl) ai)
    |row t n es xs ay aV ct=>exact .row t n es xs ay aV ct
    |fQ t n es ay=>exact .fQ t n es ay
    |bY bE b o ay aV ct=>exact .bY bE b o ay aV ct
   ·have t:=h.trans
    refine⟨cq.os.trans t.os,cq.tape.trans t.tape,cq.output.trans t.output,Nat.le_trans t.size cq.size,fun b ad hn=>?_,fun b ad=>?_,fun b ad=>b6 b (t.jL b ad),fun b ad=>?_,fun id bA o ag=>?_,fun id o ag=>(qL PI ag).1,Nat.le_trans t.le hm⟩
    ·rw[←t.frame b ad hn]
     refine cq.frame b (Nat.lt_of_lt_of_le ad t.size) fun jm=>?_
     rcases t.gK b jm with q|q
     ·exact hn q
     ·omega
    ·rcases cq.iM b ad with q|q|q
     ·exact t.iM b q
     ·rcases t.gK b q with q|q
      ·exact .inr (.inl q)
      ·exact .inr (.inr q)
     ·exact .inr (.inr (Nat.le_trans t.size q))
    ·rcases cq.gK b ad with q|q
     ·exact t.gK b q
     ·exact .inr (Nat.le_trans t.size q)
    ·have G5:id<s.next:=Nat.lt_of_lt_of_le bA t.le
     obtain⟨aa,ae⟩:=aj id o G5 ag;obtain⟨cl,aq,_⟩:=ae;obtain⟨dh,dv⟩:=t.dE id bA cl aq;exact⟨dh,aa.trans dv⟩
  exact hK _ e1 _ _ ⟨dR,ro',ga.put o.dst r v (dk.lower Zv)⟩
end
end Go.aL
namespace Go.aL
open Go
inductive uH:ej→ej→Prop where
 |same (o:ej):uH o o
 |box (t:TypeId) {cs ds:List aD}:fS cs ds→uH (.box t cs) (.box t ds)
 |row (t:TypeId) (n:Nat) {es fs:List (List bd)}:es.length=fs.length→(∀e∈fs,e.length=n)→fR es.flatten fs.flatten→uH (.row false t n es) (.row false t n fs)
def pO(s t:aM):Prop:=∀E (G:aY) a w β ro,c6 E G s a w β ro→c6 E G t a w β ro
theorem pO.le{s t:aM}(h:pO s t):cL s t:=fun E G a w ⟨β,ro,af⟩=>⟨β,ro,h E G a w β ro af⟩
theorem pO.of{s t:aM}(ad:t.base=s.base)(hn:s.next≤t.next)(ao:t.cC.length=s.cC.length)(ah: ∀(i:Nat) (v:aD),t.cC[i]? =some v→∃u,s.cC[i]? =some u∧Sub u v)
 (a8: ∀(id:Nat) (o:ej),aE t.heap id=some o→∃cl,aE s.heap id=some cl∧uH cl o):pO s t:=by
 intro E G a w β ro h
 have nB: ∀id ty cs,aE t.heap id=some (.box ty cs)→β id=β id∧∃ty cs,aE s.heap id=some (.box ty cs):=fun id ty cs ag=>by
  obtain⟨cl,aa,ae⟩:=a8 id _ ag
  cases ae with
  |same=>exact⟨rfl,ty,cs,aa⟩
  |box _ h=>exact⟨rfl,_,_,aa⟩
 have dF: ∀id z ty n es,aE t.heap id=some (.row z ty n es)→β id=β id∧∃z ty es,aE s.heap id=some (.row z ty n es):=fun id z ty n es ag=>by
  obtain⟨cl,aa,ae⟩:=a8 id _ ag
  cases ae with
  |same=>exact⟨rfl,z,ty,es,aa⟩
  |row _ _=>exact⟨rfl,_,_,_,aa⟩
 have nC: ∀id bE,aE t.heap id=some (.bY bE)→β id=β id∧∃bE,aE s.heap id=some (.bY bE):=fun id bE ag=>by
  obtain⟨cl,aa,ae⟩:=a8 id _ ag
  cases ae with
  |same=>exact⟨rfl,bE,aa⟩
 have hex: ∀id o,aE t.heap id=some o→∃cl,aE s.heap id=some cl∧cl.live=o.live:=fun id o ag=>by
  obtain⟨cl,aa,ae⟩:=a8 id o ag
  cases ae<;>exact⟨_,aa,rfl⟩
 have own: ∀b,Own t.heap β b→Own s.heap β b:=fun b ⟨id,o,ag,HC,a7⟩=>by
  obtain⟨cl,aa,ae⟩:=hex id o ag;exact⟨id,cl,aa,by rw[ae];exact HC,a7⟩
 refine⟨h.defers,by rw[ao];exact h.size,fun i x hx=>?_,⟨fun id o ag=>?_,fun id gJ o cl b aa ae aq aT bD cA=>?_,fun b ad an=>h.heap.ft b ad (own b an),h.heap.lt⟩,h.hT,?_,by rw[ad];exact h.base⟩
 ·obtain⟨u,hu,gb⟩:=ah i x hx
  exact(gb _ _ _ _ _ _ (h.slot i u hu)).keep (fun _ _=>rfl) (fun _ h=>h) hn nB dF nC
 ·obtain⟨cl,aa,Zw⟩:=a8 id o ag
  have dq:=(h.heap.c4 id cl aa).keep (fun _ _=>rfl) (fun _ h=>h) hn (Nat.le_refl _) rfl (fun _ _ _=>rfl) nB dF nC
  cases Zw with
  |same=>exact dq
  |box ty gb=>
   cases dq with
   |box _ _ b arr ay aV ct eA=>
    refine .box ty _ b arr ay aV (by rw[ct,gb.at.1]) fun j x ai=>?_
    obtain⟨u,hu,IC⟩:=gb.at.2 j x ai;exact IC _ _ _ _ _ _ (eA j u hu)
  |row ty n ao hn gb=>
   cases dq with
   |row _ _ _ xs ay aV ct=>
    refine .row ty n _ xs (by rw[←ao];exact ay) hn fun j x ai=>?_
    obtain⟨u,hu,IC⟩:=gb.at.2 j x ai;exact IC _ _ _ (ct j u hu)
 ·obtain⟨p,g1,g2⟩:=hex id o aa
  obtain⟨fF,g3,g4⟩:=hex gJ cl ae;exact h.heap.inj id gJ p fF b g1 g3 (by rw[g2];exact aq) (by rw[g4];exact aT) bD cA
 ·have oN:=h.trans
  refine⟨oN.os,oN.tape,oN.output,oN.size,oN.frame,oN.iM,oN.jL,fun b ad=>oN.gK b (own b ad),fun id hi o ag=>?_,fun id o ag=>?_,Nat.le_trans oN.le hn⟩
  ·obtain⟨p,g1,_⟩:=hex id o ag
   exact oN.dE id hi p g1
  ·obtain⟨p,g1,_⟩:=hex id o ag
   exact Nat.lt_of_lt_of_le (oN.new id p g1) hn
theorem cL.of{s t:aM}(ad:t.base=s.base)(hn:s.next≤t.next)(ao:t.cC.length=s.cC.length)(ah: ∀(i:Nat) (v:aD),t.cC[i]? =some v→∃u,s.cC[i]? =some u∧Sub u v)
 (a8: ∀(id:Nat) (o:ej),aE t.heap id=some o→∃cl,aE s.heap id=some cl∧uH cl o):cL s t:=(pO.of ad hn ao ah a8).le
theorem pO.put{s t:aM}{i:Nat}{x:bd}(h:pO s t)(ah:s.cC[i]? =some (.au x)):pO s (t.put (some i) (.au x)):=by
 intro E G a w β ro af
 have aG:=h E G a w β ro af
 refine⟨aG.defers,by simp only[aM.put,List.length_set];exact aG.size,fun j y ax=>?_,aG.heap,aG.hT,aG.trans,aG.base⟩
 simp only[aM.put,List.getElem?_set]at ax
 split at ax
 ·rename_i e
  subst e
  split at ax
  ·cases ax
   cases af.slot i (.au x) ah with
   |au _ _ av=>exact .au _ _ av
  ·cases ax
 ·exact aG.slot j y ax
section
variable {P:Program} {G:aY}
theorem ee.wH{o:Oper}{s t bs:aM}(h:ee P G o s t)(ao:cL t bs):ee P G o s bs:=
 fun E a w af K Q hK=>h E a w af K Q fun a6 w' dS=>hK a6 w' (ao E G a6 w' dS)
theorem PJ{s:aM}{dst:Option Nat}{v bu:aD}(h:Sub v bu):cL (s.put dst v) (s.put dst bu):=by
 cases dst with
 |none=>exact cL.refl _
 |some d=>
  refine cL.of rfl (Nat.le_refl _) (by simp[aM.put]) (fun i u hu=>?_) (fun id o an=>⟨o,an,.same o⟩)
  simp only[aM.put,List.getElem?_set]at hu⊢
  split at hu
  ·rename_i e
   rw[if_pos e]
   split at hu
   ·rename_i bA
    cases hu;rw[if_pos bA];exact⟨_,rfl,h⟩
   ·cases hu
  ·rename_i e
   rw[if_neg e];exact⟨u,hu,Sub.refl _⟩
theorem PK{s:aM}{h':bz}{dst:Option Nat}{v:aD}(a8: ∀id o,aE h' id=some o→∃cl,aE s.heap id=some cl∧uH cl o):cL (s.put dst v) (aM.put {s with heap:=h'} dst v):=by
 cases dst with
 |none=>exact cL.of rfl (Nat.le_refl _) rfl (fun i u hu=>⟨u,hu,Sub.refl _⟩) a8
 |some d=>exact cL.of rfl (Nat.le_refl _) rfl (fun i u hu=>⟨u,hu,Sub.refl _⟩) a8
theorem ID: ∀{l m:List bd},fS (l.map .au) (m.map .au)→fR l m
 |[],[],_=>.nil
 |[],_::_,h=>by cases h
 |_::_,[],h=>by cases h
 |x::l,y::m,h=>by
  cases h with
  |cons aa ae=>
   refine .cons (fun w ro c hc=>?_) (ID ae)
   have:=aa w ro [] (fun _=>undef) 0 c (.au x c hc)
   cases this with
   |au _ _ h=>exact h
theorem fR.refl: ∀(l:List bd),fR l l
 |[]=>.nil
 |x::r=>.cons (mc.refl x) (fR.refl r)
theorem fR.append{a b c d:List bd}(h:fR a b)(k:fR c d):fR (a++c) (b++d):=by
 induction h with
 |nil=>exact k
 |cons h _ aQ=>exact .cons h aQ
end
section
variable {P:Program} {G:aY} {s:aM}
theorem Zx{o:Oper}(t:TypeId)(len:Nat)(parts:Array (Nat × Operand))(an:o.op= .buildSlice t len parts){e n:Nat}(hu:P.underlying t=some (.slice e))(bJ:(P.info? e).map (·.size)=some n)
 {zs:List Value}(br:zeroCells P e=some zs)(rZ:zs.all Value.oneCell'=true)(l9:zs.length=n)(hlen:0<len*n∧len*n≤16777216)
 {ps:List (Nat × aD)}(qO:parts.toList.map (fun p=>(p.1,aI G s p.2))=ps)(dQ:ps.all (fun p=>(cy p.2).all (ek s.heap))=true)
 {ds:List aD}(hf:jQ (fun i=>some (i*n,n)) ((List.replicate len (zs.map fun z=>aD.au (.v z))).flatten) ps=some ds)(ad:s.base≤s.next):
 ee P G o s ({s with heap:=(s.next,.box e ds)::s.heap,next:=s.next+1}.put o.dst (.dB s.next len)):=by
 have mV:ds.length=len*n:=by
  have: ∀(ps:List (Nat × aD)) (cs ds:List aD),jQ (fun i=>some (i*n,n)) cs ps=some ds→ds.length=cs.length:=by
   intro ps
   induction ps with
   |nil=>intro cs ds h;simp[jQ]at h;rw[h]
   |cons p r aQ=>
    intro cs ds h;obtain⟨i,v⟩:=p;simp only[jQ]at h
    split at h
    ·rename_i hc
     rw[aQ _ _ h,pr _ _ _ (by omega)]
    ·cases h
  rw[this ps _ _ hf,jM (n:=n) (fun e he=>by rw[List.mem_replicate]at he;rw[he.2];simpa using l9)]
  simp
 intro E a w ⟨β,ro,af⟩ K Q hK
 obtain⟨aa,ae⟩:=Hi af qO dQ
 obtain⟨z,l6,oq,_⟩:=yj br w
 have fe:(List.replicate len (zs.map fun z=>aD.au (.v z))).flatten.length=len*n:=by
  rw[jM (n:=n) (fun e he=>by rw[List.mem_replicate]at he;rw[he.2];simpa using l9)];simp
 have Xs:zs.toArray.size=n:=by simpa using l9
 have qR:0<n:=by
  rcases Nat.eq_zero_or_pos n with h|h
  ·rw[h]at hlen;simp at hlen
  ·exact h
 obtain⟨ys,g1,g2,g3⟩:=BL (place':=fun i=>some (i*n,n)) (fun _ _ h=>h) af.heap hf aa ae (xs:=(Array.range (len*n)).map fun x=>zs.toArray[x%zs.toArray.size]!) (by rw[fe];simp) (fun j x ai=>by
  have dP:j<len*n:=by rw[←fe];exact(List.getElem?_eq_some_iff.1 ai).1
  have hm:j=(j/ n)*n+j%n:=by rw[Nat.mul_comm];exact(Nat.div_add_mod j n).symm
  have nH:j%n<n:=Nat.mod_lt _ qR
  have nI:j/ n<len:=by rw[Nat.div_lt_iff_lt_mul qR];exact dP
  rw[hm,qA (n:=n) (fun e he=>by rw[List.mem_replicate]at he;rw[he.2];simpa using l9) (i:=j/ n) (e:=zs.map fun z=>aD.au (.v z)) (by simp[nI]) (j%n) nH]at ai
  have:=Hh (w:=w) (ro:=ro) (σ:=s.heap) (β:=β) (N:=s.next) rZ (j%n) x ai
  have ay:(Array.map (fun x=>zs.toArray[x%zs.toArray.size]!) (Array.range (len*n))).getD j undef=zs.toArray.getD (j%n) undef:=by
   have aq:j%n<zs.length:=by omega
   simp[dP,l9,List.getElem?_eq_getElem aq]
  rw[ay]
  exact this)
 have cS:(execOp a.eval o).run P w= .ok (.value (.slice (some ⟨w.heap.size,0,none⟩) len len)) (w.alloc (.cells ys e)):=by
  have yy:(sizeOf e).run P w= .ok n w:=by
   cases hi:P.info? e with
   |none=>simp[hi]at bJ
   |some i=>simp[hi]at bJ;simp[sizeOf,typeInfo,hi,bJ]
  have cf: ¬len*n>2^24:=by omega
  have kA: ¬len*n=0:=by omega
  simp only[execOp,an,Sem.run_bind,Instr.buildSlice,run_underlying hu,Result.andThen_ok,yy,if_neg cf,if_neg kA,l6,Sem.run_pure,oq]
  erw [g1]
  simp[newRow]
 have k3:aE s.heap s.next=none:=by
  cases ag:aE s.heap s.next with
  |none=>rfl
  |some p=>have:=af.trans.new _ _ ag;omega
 have up: ∀(x:aD) (c:Value),bp w ro s.heap β s.next x c→bp (w.alloc (.cells ys e)) ro ((s.next,.box e ds)::s.heap) (hp β s.next (.pointer (some ⟨w.heap.size,0,none⟩))) (s.next+1) x c:=fun x c hx=>
  hx.move (fun b ad=>(Go.RowKit.Below.heap_alloc w _ b (af.heap.lt b ad))) (fun _ h=>h) (Nat.le_succ _) fun id o bA ag=>by
   have cf: ¬s.next=id:=by omega
   simp only[aE,if_neg cf]at ag;refine⟨cJ _ _ (fun a8=>cf a8.symm),o,ag,?_⟩
   cases o with
   |box=>trivial
   |row=>rfl
   |bY=>trivial
 have ga:=af.new (w':=w.alloc (.cells ys e)) s.next k3 ad (Nat.le_refl _) (.box e ds) (.pointer (some ⟨w.heap.size,0,none⟩)) rfl rfl rfl (by simp) (fun b ad=>Go.RowKit.Below.heap_alloc w _ b ad) (fun b ad=>by simp[cb]at ad;omega) rfl
  (.box e ds w.heap.size ys (by rw[ew]) (heap_alloc_new w _) g2 fun j x ai=>up _ _ (g3 j x ai))
 unfold Oper.wp
 rw[cS]
 exact hK _ _ ⟨_,ro,ga.put o.dst (.dB s.next len) (.slice (some ⟨w.heap.size,0,none⟩) len len) (.dB _ _ _ (Nat.lt_succ_self _) fun t cs _=>⟨_,ew _ _ _,rfl⟩)⟩
end
def ab.zg:ab→Bool
 | .bg _ _=>true
 | .fd _ _ _ _=>true
 | .cs _=>true
 | .ip _ _ _=>true
 |_=>false
theorem Cu{G:aY}{e:Env}: ∀{l:List ab},l.all ab.zg=true→∃vs,iu (ab.bP G e l)=some vs∧ab.bP G e l=vs.map .au
 |[],_=>⟨[],rfl,rfl⟩
 |x::r,h=>by
  simp only[List.all_cons,Bool.and_eq_true]at h;obtain⟨vs,aa,ae⟩:=Cu (G:=G) (e:=e) h.2
  have: ∃y,x.den G e= .au y:=by
   cases x<;>first|exact⟨_,rfl⟩|(simp[ab.zg]at h)
  obtain⟨y,ax⟩:=this;refine⟨y::vs,?_,?_⟩
  ·simp only[ab.bP,ax,iu,aa]
  ·simp only[ab.bP,ax,ae,List.map_cons]
mutual
def ab.kill(id:Nat):ab→ab
 | .cD l=>.cD (ab.eg id l)
 | .tp l=>.tp (ab.eg id l)
 | .dz k o=>match decide (k=id)with
  |true=>.top
  |false=>.dz k o
 | .gu k x o=>match decide (k=id)with
  |true=>.top
  |false=>.gu k x o
 | .gB k o x n=>match decide (k=id)with
  |true=>.top
  |false=>.gB k o x n
 | .aN k=>match decide (k=id)with
  |true=>.top
  |false=>.aN k
 | .cx k n=>match decide (k=id)with
  |true=>.top
  |false=>.cx k n
 | .eV g (some k) o=>match decide (k=id)with
  |true=>.eV g none o
  |false=>.eV g (some k) o
 | .fn f a b=>.fn f (ab.eg id a) (ab.eg id b)
 | .iS k=>match decide (k=id)with
  |true=>.top
  |false=>.iS k
 | .fk g b x=>.fk g b (ab.kill id x)
 |x=>x
def ab.eg(id:Nat):List ab→List ab
 |[]=>[]
 |x::r=>ab.kill id x::ab.eg id r
end
def a1.map{α:Type}(f:α→α):a1 α→a1 α
 | .emp=>.emp
 | .n v l r=>.n (match v with|some x=>some (f x)|none=>none) (l.map f) (r.map f)
theorem a1.get_map{α:Type}(f:α→α): ∀(t:a1 α) (k:Nat),(t.map f).get k=(t.get k).map f
 | .emp,_=>rfl
 | .n v l r,k=>by
  simp only[a1.map,a1.get]
  split
  ·cases v<;>rfl
  ·split
   ·exact a1.get_map f l _
   ·exact a1.get_map f r _
structure du where
 xs:List bQ
 ns:List fE
 Ov:Option Nat
 h:List (Nat × bC)
 n:Nat
 v:ab
def du.l(r:du)(l:a1 ab):a1 ab:=
 match r.Ov with
 |none=>l
 |some id=>l.map (ab.kill id)
def du.st(r:du)(S:ar)(dst:Option Nat):ar:=({S with l:=r.l S.l,h:=r.h,n:=r.n}:ar).put dst r.v
def oO(P:Program)(G:aY)(N B:Nat)(M:List aW)(o:Oper)(S:ar)(r:du):Prop:=
 ∀e,(∀c∈S.g,c.ok e)→(∀(j:Nat) (x:bQ),r.xs[j]? =some x→Env.at e (S.k+j)=x.den M e)→(∀n∈r.ns,n.ok M e)→ee P G o (S.den G N B e) ((r.st S o.dst).den G N B e)
def IE(P:Program)(B:Nat)(S:ar)(t:TypeId):Option du:=
 match zeroCells P t with
 |some zs=>match zs.all Value.oneCell'&&Nat.ble B S.n with
  |true=>some ⟨[],[],none,(S.n,.c8 t (zs.map .cs))::S.h,S.n+1,.dz S.n 0⟩
  |false=>none
 |none=>none
def IF(B:Nat)(S:ar)(t:TypeId)(x:ab):Option du:=
 match x.cells.all (kF S.h)&&Nat.ble B S.n with
 |true=>some ⟨[],[],none,(S.n,.c8 t x.cells)::S.h,S.n+1,.dz S.n 0⟩
 |false=>none
def IG(P:Program)(S:ar)(t:TypeId)(p x:ab):Option du:=
 match p with
 | .dz id off=>match dm S.h id,(P.info? t).map (·.size)with
  |some (.c8 bt l),some n=>match x.cells.all (kF S.h)&&(Nat.beq n x.cells.length&&Nat.ble (off+n) l.length)with
   |true=>some ⟨[],[],none,kD S.h id (.c8 bt (dW l off x.cells)),S.n,.top⟩
   |false=>none
  |_,_=>none
 | .gu id i off=>match dm S.h id,(P.info? t).map (·.size),i.rt with
  |some (.rw bt c y),some n,some (.int k)=>match x.cells.all ab.zg&&((x.cells.all (kF S.h)&&y.fz (.li c))&&(Nat.beq n x.cells.length&&(Nat.ble (off+n) (c5 c)&&hJ (fh c) (dW (iT c S.k 0 (fh c)) off x.cells))))with
   |true=>some ⟨[.f2 (.jX c k) y i,.up c y i (.cD (dW (iT c S.k 0 (fh c)) off x.cells))],oM S.g (.iA c) (.jX c k) y i,
    none,kD S.h id (.rw bt c (.bg (.li c) (S.k+1))),S.n,.top⟩
   |false=>none
  |_,_,_=>none
 |_=>none
section
variable {P:Program} {G:aY} {o:Oper} {N B:Nat} {S:ar} {M:List aW}
theorem Zy{t:TypeId}{r:du}(an:o.op= .alloc t)(h:IE P B S t=some r):oO P G N B M o S r:=fun e hf hx hn=>by
 unfold IE at h
 split at h
 ·rename_i zs br
  split at h
  ·rename_i ad
   cases h;simp only[Bool.and_eq_true]at ad
   have:=NI (G:=G) (s:=S.den G N B e) t an (Nat.le_of_ble_eq_true ad.2) br ad.1
   rw[du.st,fw];simp only[ar.den,cK,bC.den,ab.den,du.l]at this⊢;rw[eD,List.map_map];exact this
  ·cases h
 ·cases h
theorem Zz{t:TypeId}{x:Operand}{r:du}(an:o.op= .box t x)(h:IF B S t (S.aX N x)=some r):oO P G N B M o S r:=fun e hf hx hn=>by
 unfold IF at h
 split at h
 ·rename_i ad
  cases h;simp only[Bool.and_eq_true]at ad
  have av:=uA (G:=G) (e:=e) ad.1
  have:=NG (P:=P) (G:=G) (s:=S.den G N B e) t x an (Nat.le_of_ble_eq_true ad.2) (by rw[bI hf,av];exact wC ad.1)
  rw[bI hf,av]at this;rw[du.st,fw];exact this
 ·cases h
theorem ZA{c:bN}{l:List (fZ c)}{j:Nat}{lV ay:fZ c}{vs:List bd}(aS:l[j]? =some lV)(ah:fR vs (cX c ay)):fR ((l.map (cX c)).set j vs).flatten ((l.set j ay).map (cX c)).flatten:=by
 induction l generalizing j with
 |nil=>simp at aS
 |cons x l aQ=>
  cases j with
  |zero=>
   simp only[List.map_cons,List.set_cons_zero,List.flatten_cons];exact ah.append (fR.refl _)
  |succ j=>
   simp only[List.map_cons,List.set_cons_succ,List.flatten_cons];exact(fR.refl _).append (aQ (by simpa using aS))
theorem ZB{t:TypeId}{p x:Operand}{r:du}(an:o.op= .store t p x)(h:IG P S t (S.aX N p) (S.aX N x)=some r):oO P G N B M o S r:=fun e hf hx hn=>by
 unfold IG at h
 split at h
 ·rename_i id off ak
  split at h
  ·rename_i bt l n ag bJ
   split at h
   ·rename_i ad
    cases h;simp only[Bool.and_eq_true]at ad
    have av:=uA (G:=G) (e:=e) ad.1
    have hlen:=Nat.eq_of_beq_eq_true ad.2.1
    have lG:cy (aI G (S.den G N B e) x)=ab.bP G e (S.aX N x).cells:=by rw[bI hf,av]
    have:=NK (P:=P) (G:=G) (s:=S.den G N B e) t p x an (id:=id) (off:=off) (by rw[bI hf,ak];rfl) (bt:=bt) (cs:=ab.bP G e l) (by simp only[ar.den,eN,ag,Option.map_some,bC.den])
     (vs:=ab.bP G e (S.aX N x).cells) lG (wC ad.1) (by rw[ng,bJ,hlen]) (by rw[ng,ng,←hlen];exact Nat.le_of_ble_eq_true ad.2.2)
    rw[du.st,fw];simp only[ar.den,ux,bC.den,ab.den,du.l]at this⊢;rw[eD,Ck,←eD,←eD];exact this
   ·cases h
  ·cases h
 ·rename_i id i off ak
  split at h
  ·rename_i bt c y n k ag bJ hi
   split at h
   ·rename_i ad
    cases h;simp only[Bool.and_eq_true]at ad;obtain⟨eY,⟨gH,fX⟩,qm,wI,zh⟩:=ad
    have hlen:=Nat.eq_of_beq_eq_true qm
    obtain⟨g1,g2⟩:=wA hf hi hn;obtain⟨vs,v1,v2⟩:=Cu (G:=G) (e:=e) eY
    have oP:vs.length=n:=by
     have:=congrArg List.length v2
     rw[ng,List.length_map]at this;omega
    have lG:cy (aI G (S.den G N B e) x)=ab.bP G e (S.aX N x).cells:=by rw[bI hf,uA gH]
    have aS:Env.at e S.k=⟨.st c,List.getD (y.aH e (.li c)) (Int.toNat (i.aH e (.int k))) (fJ c)⟩:=hx 0 _ rfl
    have aa:Env.at e (S.k+1)=_:=hx 1 _ rfl
    have eC:=getD_at g1 g2
    have dH:=NM (P:=P) (G:=G) (s:=S.den G N B e) t p x an (id:=id) (i:=(cc (i.dyn e)).toNat) (off:=off) (by rw[bI hf,ak];rfl) (bt:=bt) (n:=c5 c) (es:=List.map (cX c) (y.aH e (.li c))) (by simp only[ar.den,eN,ag,Option.map_some,bC.den])
     (e:=cX c (List.getD (y.aH e (.li c)) (Int.toNat (i.aH e (.int k))) (fJ c))) (by rw[List.getElem?_map,mh hi,eC];rfl) (by rw[lG];exact v1) (by rw[bJ,oP]) (by rw[oP];exact Nat.le_of_ble_eq_true wI)
    refine dH.wH ?_
    rw[du.st,fw]
    have k2:fR (dW (cX c (List.getD (y.aH e (.li c)) (Int.toNat (i.aH e (.int k))) (fJ c))) off vs) (cX c (oB c (hU e (fh c) (dW (iT c S.k 0 (fh c)) off (S.aX N x).cells)))):=by
     have:=yU (G:=G) (e:=e) zh
     rw[eD,Ck,←eD,←eD,wc,aS,cQ,v2,←Ck]at this;exact ID this
    have ga:(ab.bg (.li c) (S.k+1)).aH e (.li c)=List.set (y.aH e (.li c)) (cc (i.dyn e)).toNat (oB c (hU e (fh c) (dW (iT c S.k 0 (fh c)) off (S.aX N x).cells))):=by
     simp only[ab.aH,ab.fG,ab.dyn,cQ,aa,bQ.den,ab.get,ab.cells]
    refine PK (s:={S.den G N B e with heap:=eU (S.den G N B e).heap id _}) (h':=cK G e (kD S.h id (.rw bt c (.bg (.li c) (S.k+1))))) fun gJ h6 zi=>?_
    rw[ux,vC]at zi;simp only[vC]
    by_cases hid:id=gJ
    ·rw[if_pos hid]at zi⊢
     cases zi;refine⟨_,rfl,?_⟩
     simp only[bC.den];rw[ga];refine .row bt (c5 c) (by simp) (fun q aJ=>?_) (ZA (by rw[mh hi];exact eC) k2)
     obtain⟨z,_,rfl⟩:=List.mem_map.1 aJ;exact BW c z
    ·rw[if_neg hid]at zi⊢
     exact⟨h6,zi,.same h6⟩
   ·cases h
  ·cases h
 ·cases h
end
end Go.aL
namespace Go.aL
open Go Go.Lib
section
variable {P:Program}
theorem IH{w:World}(t u ty e:TypeId){i:TypeInfo}(aG:P.underlying t=some (.slice e))(hu:P.underlying u=some .string)(hi:P.info? e=some i)(br:i.zero=some (.int .u8 0))(h9:i.size=1)(iQ:i.bytes=1)
 {v:Value}{n:Nat}{xs:List Value}(dF:kt w e 1 v n xs)(s:ByteArray)(r0:n+s.size≤maxLen)(yz:n+s.size≤140737488355328):
 ∃bu w',(Builtin.append_ #[t,u] ty #[v,.string s]).run P w= .ok bu w'∧kt w' e 1 bu (n+s.size) (xs++strCells s)∧w.grownBy w' (cb v)∧(∀k,cb bu=some k→cb v=some k∨w.heap.size≤k):=by
 have zcY:n+s.size≤9223372036854775807:=by simp only[maxLen]at r0;omega
 have lB:xs.length=n:=by simpa using dF.1
 have hlen:(xs++strCells s).length=(n+s.size)*1:=by rw[List.length_append,lB,strCells_length,Nat.mul_one]
 have grown: ∀(dE:Nat),dE<n+s.size→∀(row:Option Nat),
  kt (w.drew.alloc (.cells (xs.toArray++(strCells s).toArray++Builtin.zeroCells (Value.int .u8 0).cells (grownCap w (n+s.size) dE e-(n+s.size))) e)) e 1
   (.slice (some ⟨w.heap.size,0,none⟩) (n+s.size) (grownCap w (n+s.size) dE e)) (n+s.size) (xs++strCells s)∧
  w.grownBy (w.drew.alloc (.cells (xs.toArray++(strCells s).toArray++Builtin.zeroCells (Value.int .u8 0).cells (grownCap w (n+s.size) dE e-(n+s.size))) e)) row:=by
  intro dE an row
  have hW:=grownCap_ge w (n+s.size) dE e
  have iN:grownCap w (n+s.size) dE e≤maxLen:=grownCap_le_maxLen w (n+s.size) dE e r0
  refine⟨⟨hlen,.inr ⟨w.heap.size,_,_,rfl,by omega,heap_alloc_new w.drew _,hW,iN,?_,?_⟩⟩,⟨rfl,rfl,rfl,by simp,fun k aj _=>Go.RowKit.Below.heap_alloc w.drew _ k aj⟩⟩
  ·have ZC:(Value.int IntKind.u8 0).cells.size=1:=rfl
   simp only[Array.size_append,List.size_toArray,size_zeroCells,ZC,lB,strCells_length];omega
  ·simp only[Array.toList_append,List.append_assoc]
   rw[←List.append_assoc,←hlen];exact List.take_left
 have II: ∀(m c k:Nat),cb (.slice (some ⟨w.heap.size,0,none⟩) m c)=some k→cb v=some k∨w.heap.size≤k:=fun m c k aj=>by
  simp only[cb]at aj
  split at aj
  ·cases aj
  ·simp at aj;exact .inr (by omega)
 rcases dF.2 with⟨⟨c,rfl,tW⟩,kA⟩|⟨g,cap,cur,rfl,yA,ag,PL,iN,fu,lA⟩
 ·subst kA
  have hx:xs=[]:=List.eq_nil_of_length_eq_zero lB
  subst hx
  by_cases hm:s.size=0
  ·have r1:strCells s=[]:=List.eq_nil_of_length_eq_zero (by rw[strCells_length];exact hm)
   have hf:=run_firstCells_string (P:=P) w 1 s
   rw[hm]at hf;refine⟨.slice c 0 0,w,?_,by rw[hm,r1];exact⟨rfl,.inl ⟨⟨c,rfl,tW⟩,rfl⟩⟩,World.grownBy.refl w _,fun k aj=>.inl aj⟩
   cases c<;>simp[Builtin.append_,run_underlying aG,run_underlying hu,sizeOf,typeInfo,hi,h9,Builtin.lenOf,hm,hf,r1,storeCells]
  ·have cZ:=grown 0 (by omega) (cb (.slice c 0 0))
   cases c with
   |none=>
    have af:=run_append_nil_string (P:=P) w t u ty e i (.int .u8 0) aG hu hi br s (by omega) (by omega) (by rw[iQ];omega)
    simp only[Nat.zero_add,List.nil_append,Array.empty_append]at cZ⊢
    have ay:(s.data.map fun b=>Value.int .u8 b.toNat)=(strCells s).toArray:=by
     apply Array.ext';simp[strCells]
    rw[ay]at af;exact⟨_,_,af,cZ.1,cZ.2,II _ _⟩
   |some a=>
    have af:=run_append_grow_string (P:=P) w t u ty e i (.int .u8 0) aG hu hi br a 0 0 [] (by simp) (by simp) s (by omega) (by omega) (by rw[iQ];exact growslice_fits (by omega) (by omega))
    exact⟨_,_,af,cZ.1,cZ.2,II _ _⟩
 ·by_cases PM:n+s.size≤cap
  ·have af:=run_append_room_string (P:=P) w t u ty e i aG hu hi h9 g n cap cur ag s PM (by omega)
   refine⟨_,_,af,⟨hlen,.inr ⟨g,cap,_,rfl,yA,setRow_heap w g cur _ e _ ag,PM,iN,?_,?_⟩⟩,⟨rfl,rfl,rfl,by simp,fun k _ aj=>setRow_other w g k _ (fun e=>aj (by simp[cb,e,Nat.ne_of_gt yA]))⟩,fun k aj=>.inl ?_⟩
   ·simp only[List.size_toArray,List.length_append,List.length_take,List.length_drop,Array.length_toList,strCells_length]
    omega
   ·have cq:cur.toList.take n=xs:=by simpa using lA
    rw[cq,←hlen];exact List.take_left
   ·simpa[cb,Nat.ne_of_gt yA]using aj
  ·have holds: ∀j u,xs[j]? =some u→w.cell? ((⟨g,0,none⟩:Addr).add j)=some u:=by
    have jm:w.ownsRow 0 e 1 (.slice (some ⟨g,0,none⟩) n cap) n xs:=⟨dF.1,.inr ⟨g,cap,cur,rfl,Nat.zero_le _,ag,PL,iN,fu,lA⟩⟩
    exact jm.cells (g:=g) rfl
   have af:=run_append_grow_string (P:=P) w t u ty e i (.int .u8 0) aG hu hi br ⟨g,0,none⟩ n cap xs (by rw[h9];simpa using lB) holds s (by omega) (by omega) (by rw[iQ];exact growslice_fits (by omega) (by omega))
   have cZ:=grown cap (by omega) (cb (.slice (some ⟨g,0,none⟩) n cap))
   exact⟨_,_,af,cZ.1,cZ.2,II _ _⟩
def eR(b:ByteArray):List Int:=b.data.toList.map fun u=>(u.toNat:Int)
theorem IJ{w:World}{ro:Nat→Prop}(b:ByteArray):((eR b).map fun z=>[bd.v (.int .u8 z)]).length=b.size∧∀(j:Nat) (x:bd),((eR b).map fun z=>[bd.v (.int .u8 z)]).flatten[j]? =some x→dp w ro x ((strCells b).getD j undef):=by
 refine⟨by rw[List.length_map];unfold eR;rw[List.length_map,Array.length_toList];rfl,fun j x ai=>?_⟩
 have oj:((eR b).map fun z=>[bd.v (.int .u8 z)]).flatten=(eR b).map fun z=>bd.v (.int .u8 z):=by
  generalize eR b=l
  induction l with
  |nil=>rfl
  |cons y r aQ=>simp only[List.map_cons,List.flatten_cons,aQ,List.singleton_append]
 rw[oj]at ai
 unfold eR at ai
 simp only[List.map_map,List.getElem?_map]at ai
 obtain⟨u,hu,rfl⟩:=Option.map_eq_some_iff.1 ai
 have:(strCells b).getD j undef= .int .u8 (u.toNat:Int):=by
  unfold strCells;simp[List.getD,hu]
 rw[this]
 exact .v _ rfl
variable {G:aY} {s:aM} {o:Oper}
def wJ(P:Program)(t u:TypeId):Option TypeId:=
 match P.underlying t,P.underlying u with
 |some (.slice e),some .string=>match P.info? e with
  |some i=>match i.zero with
   |some (.int .u8 0)=>match Nat.beq i.size 1&&Nat.beq i.bytes 1 with
    |true=>some e
    |false=>none
   |_=>none
  |none=>none
 |_,_=>none
theorem IK{t u e:TypeId}(h:wJ P t u=some e): ∃i,P.underlying t=some (.slice e)∧P.underlying u=some .string∧P.info? e=some i∧i.zero=some (.int .u8 0)∧i.size=1∧i.bytes=1:=by
 unfold wJ at h
 split at h
 ·rename_i aw hu ah
  split at h
  ·rename_i i hi
   split at h
   ·rename_i br
    split at h
    ·rename_i hc
     cases h;simp only[Bool.and_eq_true]at hc;exact⟨i,hu,ah,hi,br,Nat.eq_of_beq_eq_true hc.1,Nat.eq_of_beq_eq_true hc.2⟩
    ·cases h
   ·cases h
  ·cases h
 ·cases h
theorem ZD(x y:Operand)(t u:TypeId)(an:o.op= .call {callee:=.builtin .append,args:=#[x,y],argTypes:=#[t,u]}){e:TypeId}(aG:wJ P t u=some e)
 {id:Nat}(hx:aI G s x= .aN id){es:List (List bd)}(hid:aE s.heap id=some (.row false e 1 es))(ad:s.base≤id)(bA:id<s.next)
 {b:ByteArray}(ax:aI G s y= .au (.v (.string b)))(bJ:es.length+b.size≤maxLen∧es.length+b.size≤140737488355328):
 ee P G o s (aM.put ⟨eg id s.cC,(id,.row false e 1 (es++(eR b).map fun z=>[bd.v (.int .u8 z)]))::dr id s.heap,s.next,s.base⟩ o.dst (.aN id)):=by
 intro E a w ⟨β,ro,af⟩ K Q hK
 obtain⟨i,hu,ah,hi,br,h9,iQ⟩:=IK aG
 have dq:=af.heap.c4 id _ hid
 cases dq with
 |row _ _ _ xs dF cf fe=>
  have lG:a.eval x=β id:=by
   have h:=af.eval x
   rw[hx]at h;generalize a.eval x=c at h
   cases h with
   |aN _ _ _ ak=>exact ak _ _ _ _ hid
  obtain⟨bu,w',cS,oA,cZ,a7⟩:=IH (P:=P) t u o.type e hu ah hi br h9 iQ dF b bJ.1 bJ.2;obtain⟨dh,dv⟩:=IJ (w:=w) (ro:=ro) b;unfold Oper.wp;simp only[execOp,an,resolve,invoke,builtin,Sem.run_bind,Sem.run_pure,Result.andThen_ok,List.map_toArray,List.map_cons,List.map_nil,lG,af.en ax,cS]
  have kv: ∀k,k<w.heap.size→cb (β id)≠some k→w'.heap[k]? =w.heap[k]? :=fun k aj cf=>cZ.block k aj (fun e=>cf e.symm)
  have b6: ∀k,ro k→w'.heap[k]? =w.heap[k]? :=fun k aj=>kv k (af.heap.lt k aj) fun a7=>af.heap.ft k aj ⟨id,_,hid,rfl,a7⟩
  refine hK _ _ ⟨hp β id bu,ro,c6.put (af.renew (w':=w') id ad bA hid (.row false e 1 (es++(eR b).map fun z=>[bd.v (.int .u8 z)])) bu cZ.os cZ.tape cZ.output cZ.size kv a7 rfl ?_) o.dst _ _ ?_⟩
  ·refine .row e 1 _ _ (by rw[ew,List.length_append,dh];exact oA) (fun aw lC=>?_) (fun j x ai=>?_)
   ·rw[List.mem_append]at lC
    rcases lC with h|h
    ·exact cf _ h
    ·obtain⟨z,_,rfl⟩:=List.mem_map.1 h
     rfl
   ·exact(BP cf dF.1 fe dv j x ai).keep b6 fun _ h=>h
  ·exact .aN _ _ bA fun z bs cO eu _=>(ew _ _ _).symm
theorem ZE(x y:Operand)(t u:TypeId)(an:o.op= .call {callee:=.builtin .append,args:=#[x,y],argTypes:=#[t,u]}){e:TypeId}(aG:wJ P t u=some e)
 (hx:aI G s x= .au (.v (.slice none 0 0)))(ad:s.base≤s.next){b:ByteArray}(ax:aI G s y= .au (.v (.string b)))(bJ:b.size≤maxLen∧b.size≤140737488355328):
 ee P G o s ({s with heap:=(s.next,.row false e 1 ((eR b).map fun z=>[bd.v (.int .u8 z)]))::s.heap,next:=s.next+1}.put o.dst (.aN s.next)):=by
 intro E a w ⟨β,ro,af⟩ K Q hK
 obtain⟨i,hu,ah,hi,br,h9,iQ⟩:=IK aG
 obtain⟨bu,w',cS,oA,cZ,a7⟩:=IH (P:=P) (w:=w) t u o.type e hu ah hi br h9 iQ (v:=.slice none 0 0) (n:=0) (xs:=[]) ⟨by simp,.inl ⟨⟨none,rfl,fun _ h=>(by cases h)⟩,rfl⟩⟩ b (by omega) (by omega)
 obtain⟨dh,dv⟩:=IJ (w:=w) (ro:=ro) b
 unfold Oper.wp
 simp only[execOp,an,resolve,invoke,builtin,Sem.run_bind,Sem.run_pure,Result.andThen_ok,List.map_toArray,List.map_cons,List.map_nil,af.en hx,af.en ax,cS]
 have k3:aE s.heap s.next=none:=by
  cases ag:aE s.heap s.next with
  |none=>rfl
  |some p=>have:=af.trans.new _ _ ag;omega
 have hw: ∀b,b<w.heap.size→w'.heap[b]? =w.heap[b]? :=fun b ad=>cZ.block b ad (by simp[cb])
 have b6: ∀b,ro b→w'.heap[b]? =w.heap[b]? :=fun b ad=>hw b (af.heap.lt b ad)
 refine hK _ _ ⟨hp β s.next bu,ro,c6.put (af.new (w':=w') s.next k3 ad (Nat.le_refl _) (.row false e 1 ((eR b).map fun z=>[bd.v (.int .u8 z)])) bu cZ.os cZ.tape cZ.output cZ.size hw (fun b ad=>?_) rfl ?_) o.dst _ _ ?_⟩
 ·rcases a7 b ad with h|h
  ·simp[cb]at h
  ·exact h
 ·refine .row e 1 _ _ (by rw[ew,dh];simpa using oA) (fun aw lC=>?_) (fun j x ai=>(dv j x ai).keep b6 fun _ h=>h)
  obtain⟨z,_,rfl⟩:=List.mem_map.1 lC;rfl
 ·exact .aN _ _ (Nat.lt_succ_self _) fun z bs cO eu _=>(ew _ _ _).symm
end
end Go.aL
