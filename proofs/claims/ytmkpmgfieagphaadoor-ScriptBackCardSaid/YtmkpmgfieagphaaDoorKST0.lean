/- Test: the data as Lean structures, codes of types, typed values, immutable values. Conditions: none. -/
import Derived.WalkKit
import Derived.KernelRfl
namespace Go.du
open Go
structure cr where
 kind:Int
 n:Int
 s:ByteArray
structure h2 where
 dev:Int
 bT:ByteArray
 attr:ByteArray
structure kX where
 dev:Int
 bT:ByteArray
 name:ByteArray
structure ew where
 kind:Int
 ec:Int
 key:h2
 name:ByteArray
 value:cr
 text:ByteArray
structure iQ where
 token:ByteArray
 request:ew
structure aT where
 kind:Int
 n:Int
 m:Int
 key:h2
 value:cr
 event:kX
 asked:iQ
structure Rd where
 rest:ByteArray
 err:Int
 made:Bool
end Go.du
namespace Go.aG
open Go Go.du
inductive bC where
 |str
 |i64
 |bool
 |u8
 |cr
 |h2
 |kX
 |ew
 |iQ
 |aT
 |Rd
 deriving DecidableEq
def SW:List bC:=[.str,.i64,.bool,.u8,.cr,.h2,.kX,.ew,.iQ,.aT,.Rd]
@[reducible] def fN:bC→Type
 | .str=>ByteArray
 | .i64=>Int
 | .bool=>Bool
 | .u8=>Int
 | .cr=>cr
 | .h2=>h2
 | .kX=>kX
 | .ew=>ew
 | .iQ=>iQ
 | .aT=>aT
 | .Rd=>Rd
def ed:(i:bC)→fN i
 | .str=>⟨#[]⟩
 | .i64=>0
 | .bool=>false
 | .u8=>0
 | .cr=>⟨0,0,⟨#[]⟩⟩
 | .h2=>⟨0,⟨#[]⟩,⟨#[]⟩⟩
 | .kX=>⟨0,⟨#[]⟩,⟨#[]⟩⟩
 | .ew=>⟨0,0,⟨0,⟨#[]⟩,⟨#[]⟩⟩,⟨#[]⟩,⟨0,0,⟨#[]⟩⟩,⟨#[]⟩⟩
 | .iQ=>⟨⟨#[]⟩,⟨0,0,⟨0,⟨#[]⟩,⟨#[]⟩⟩,⟨#[]⟩,⟨0,0,⟨#[]⟩⟩,⟨#[]⟩⟩⟩
 | .aT=>⟨0,0,0,⟨0,⟨#[]⟩,⟨#[]⟩⟩,⟨0,0,⟨#[]⟩⟩,⟨0,⟨#[]⟩,⟨#[]⟩⟩,⟨⟨#[]⟩,⟨0,0,⟨0,⟨#[]⟩,⟨#[]⟩⟩,⟨#[]⟩,⟨0,0,⟨#[]⟩⟩,⟨#[]⟩⟩⟩⟩
 | .Rd=>⟨⟨#[]⟩,0,false⟩
inductive aU where
 |int (k:IntKind)
 |bool
 |str
 |li (c:bC)
 |st (c:bC)
 |Eb (x y:aU)
 |un
 |mp (k v:aU)
 deriving DecidableEq
@[reducible] def aU.den:aU→Type
 | .int _=>Int
 | .bool=>Bool
 | .str=>ByteArray
 | .li c=>List (fN c)
 | .st c=>fN c
 | .Eb x y=>x.den × y.den
 | .un=>Unit
 | .mp k v=>List (k.den × v.den)
def aU.gb:(r:aU)→r.den
 | .int _=>(0:Int)
 | .bool=>false
 | .str=>(⟨#[]⟩:ByteArray)
 | .li c=>([]:List (fN c))
 | .st c=>ed c
 | .Eb x y=>(x.gb,y.gb)
 | .un=>()
 | .mp k v=>([]:List (k.den × v.den))
structure aS where
 r:aU
 v:r.den
def aS.d:aS:=⟨.un,()⟩
def aS.as(r:aU)(d:aS):r.den:=
 match decEq d.r r with
 | .isTrue h=>h ▸ d.v
 | .isFalse _=>r.gb
inductive ba where
 |v (x:Value)
 |ptr (cs:List ba)
 |aL (n:Nat) (es:List (List ba))
 |mp (agg:Bool) (ks:List Value) (vs:List (List ba))
 |li (i:bC) (l:List (fN i))
def kD:(r:aU)→r.den→ba
 | .int k,n=>.v (.int k n)
 | .bool,b=>.v (.bool b)
 | .str,x=>.v (.string x)
 | .li c,l=>.li c l
 |_,_=>.v undef
def SX:(r:aU)→r.den→Value
 | .int k,n=>.int k n
 | .bool,b=>.bool b
 | .str,x=>.string x
 |_,_=>undef
def aU.agg:aU→Bool
 | .st _=>true
 |_=>false
end Go.aG
namespace Go.du
open Go Go.aG
def cr.h9(x:cr):List aS:=[⟨.int .i64,x.kind⟩,⟨.int .i64,x.n⟩,⟨.str,x.s⟩]
def h2.h9(x:h2):List aS:=[⟨.int .i64,x.dev⟩,⟨.str,x.bT⟩,⟨.str,x.attr⟩]
def kX.h9(x:kX):List aS:=[⟨.int .i64,x.dev⟩,⟨.str,x.bT⟩,⟨.str,x.name⟩]
def ew.h9(x:ew):List aS:=⟨.int .i64,x.kind⟩::⟨.int .i64,x.ec⟩::(x.key.h9++⟨.str,x.name⟩::(x.value.h9++[⟨.str,x.text⟩]))
def iQ.h9(x:iQ):List aS:=⟨.str,x.token⟩::x.request.h9
def aT.h9(x:aT):List aS:=⟨.int .i64,x.kind⟩::⟨.int .i64,x.n⟩::⟨.int .i64,x.m⟩::(x.key.h9++(x.value.h9++(x.event.h9++x.asked.h9)))
def Rd.h9(x:Rd):List aS:=[⟨.str,x.rest⟩,⟨.int .i64,x.err⟩,⟨.bool,x.made⟩]
end Go.du
namespace Go.aG
open Go Go.du
def kW:(i:bC)→fN i→List aS
 | .str,x=>[⟨.str,x⟩]
 | .i64,x=>[⟨.int .i64,x⟩]
 | .bool,x=>[⟨.bool,x⟩]
 | .u8,x=>[⟨.int .u8,x⟩]
 | .cr,x=>x.h9
 | .h2,x=>x.h9
 | .kX,x=>x.h9
 | .ew,x=>x.h9
 | .iQ,x=>x.h9
 | .aT,x=>x.h9
 | .Rd,x=>x.h9
def SY:(r:aU)→r.den→List ba
 | .st c,x=>(kW c x).map fun d=>kD d.r d.v
 |r,x=>[kD r x]
def fz:(r:aU)→r.den→ba
 | .mp k v,l=>.mp v.agg (l.map fun p=>SX k p.1) (l.map fun p=>SY v p.2)
 |r,x=>kD r x
def aS.au(d:aS):ba:=fz d.r d.v
def e3:bC→List aU
 | .str=>[.str]
 | .i64=>[.int .i64]
 | .bool=>[.bool]
 | .u8=>[.int .u8]
 | .cr=>[.int .i64,.int .i64,.str]
 | .h2=>[.int .i64,.str,.str]
 | .kX=>[.int .i64,.str,.str]
 | .ew=>[.int .i64,.int .i64,.int .i64,.str,.str,.str,.int .i64,.int .i64,.str,.str]
 | .iQ=>[.str,.int .i64,.int .i64,.int .i64,.str,.str,.str,.int .i64,.int .i64,.str,.str]
 | .aT=>[.int .i64,.int .i64,.int .i64,.int .i64,.str,.str,.int .i64,.int .i64,.str,.int .i64,.str,.str,.str,.int .i64,.int .i64,.int .i64,.str,.str,.str,.int .i64,.int .i64,.str,.str]
 | .Rd=>[.str,.int .i64,.bool]
def np:(i:bC)→List aS→fN i
 | .str,l=>(l.getD 0 aS.d).as (.str)
 | .i64,l=>(l.getD 0 aS.d).as (.int .i64)
 | .bool,l=>(l.getD 0 aS.d).as (.bool)
 | .u8,l=>(l.getD 0 aS.d).as (.int .u8)
 | .cr,l=>⟨(l.getD 0 aS.d).as (.int .i64),(l.getD 1 aS.d).as (.int .i64),(l.getD 2 aS.d).as (.str)⟩
 | .h2,l=>⟨(l.getD 0 aS.d).as (.int .i64),(l.getD 1 aS.d).as (.str),(l.getD 2 aS.d).as (.str)⟩
 | .kX,l=>⟨(l.getD 0 aS.d).as (.int .i64),(l.getD 1 aS.d).as (.str),(l.getD 2 aS.d).as (.str)⟩
 | .ew,l=>⟨(l.getD 0 aS.d).as (.int .i64),(l.getD 1 aS.d).as (.int .i64),⟨(l.getD 2 aS.d).as (.int .i64),(l.getD 3 aS.d).as (.str),(l.getD 4 aS.d).as (.str)⟩,(l.getD 5 aS.d).as (.str),⟨(l.getD 6 aS.d).as (.int .i64),(l.getD 7 aS.d).as (.int .i64),(l.getD 8 aS.d).as (.str)⟩,(l.getD 9 aS.d).as (.str)⟩
 | .iQ,l=>⟨(l.getD 0 aS.d).as (.str),⟨(l.getD 1 aS.d).as (.int .i64),(l.getD 2 aS.d).as (.int .i64),⟨(l.getD 3 aS.d).as (.int .i64),(l.getD 4 aS.d).as (.str),(l.getD 5 aS.d).as (.str)⟩,(l.getD 6 aS.d).as (.str),⟨(l.getD 7 aS.d).as (.int .i64),(l.getD 8 aS.d).as (.int .i64),(l.getD 9 aS.d).as (.str)⟩,(l.getD 10 aS.d).as (.str)⟩⟩
 | .aT,l=>⟨(l.getD 0 aS.d).as (.int .i64),(l.getD 1 aS.d).as (.int .i64),(l.getD 2 aS.d).as (.int .i64),⟨(l.getD 3 aS.d).as (.int .i64),(l.getD 4 aS.d).as (.str),(l.getD 5 aS.d).as (.str)⟩,⟨(l.getD 6 aS.d).as (.int .i64),(l.getD 7 aS.d).as (.int .i64),(l.getD 8 aS.d).as (.str)⟩,⟨(l.getD 9 aS.d).as (.int .i64),(l.getD 10 aS.d).as (.str),(l.getD 11 aS.d).as (.str)⟩,⟨(l.getD 12 aS.d).as (.str),⟨(l.getD 13 aS.d).as (.int .i64),(l.getD 14 aS.d).as (.int .i64),⟨(l.getD 15 aS.d).as (.int .i64),(l.getD 16 aS.d).as (.str),(l.getD 17 aS.d).as (.str)⟩,(l.getD 18 aS.d).as (.str),⟨(l.getD 19 aS.d).as (.int .i64),(l.getD 20 aS.d).as (.int .i64),(l.getD 21 aS.d).as (.str)⟩,(l.getD 22 aS.d).as (.str)⟩⟩⟩
 | .Rd,l=>⟨(l.getD 0 aS.d).as (.str),(l.getD 1 aS.d).as (.int .i64),(l.getD 2 aS.d).as (.bool)⟩
def cF(i:bC)(x:fN i):List ba:=(kW i x).map aS.au
def cO:bC→Nat
 | .str=>1
 | .i64=>1
 | .bool=>1
 | .u8=>1
 | .cr=>3
 | .h2=>3
 | .kX=>3
 | .ew=>10
 | .iQ=>11
 | .aT=>23
 | .Rd=>3
theorem Ky(i:bC)(x:fN i):(kW i x).map aS.r=e3 i:=by cases i<;>rfl
theorem zv(i:bC)(x:fN i):(cF i x).length=cO i:=by cases i<;>rfl
theorem wA(d:aS):(⟨d.r,d.as d.r⟩:aS)=d:=by
 unfold aS.as
 split
 ·rfl
 ·rename_i h _;exact absurd rfl h
theorem zw{d:aS}{r:aU}(h:d.r=r):(⟨r,d.as r⟩:aS)=d:=by subst h;exact wA d
theorem la{α β:Type}{f:α→β}{l:List α}(h:l.map f=[]):l=[]:=by cases l<;>simp_all
theorem kE{α β:Type}{f:α→β}{l:List α}{b:β}{cC:List β}(h:l.map f=b::cC): ∃a eB,l=a::eB∧f a=b∧eB.map f=cC:=by
 cases l with
 |nil=>cases h
 |cons a eB=>simp only[List.map_cons,List.cons.injEq]at h;exact⟨a,eB,rfl,h.1,h.2⟩
theorem Ec(i:bC)(l:List aS)(h:l.map aS.r=e3 i):kW i (np i l)=l:=by
 cases i<;>simp only[e3]at h<;>(repeat (obtain⟨_,_,rfl,ae,h⟩:=kE h;rw[←zw ae];clear ae))<;>(cases la h)<;>rfl
end Go.aG
