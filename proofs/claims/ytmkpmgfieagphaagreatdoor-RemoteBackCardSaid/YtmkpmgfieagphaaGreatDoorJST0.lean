/- Test: the data as Lean structures, codes of types, typed values, immutable values. Conditions: none. -/
import Derived.WalkKit
import Derived.KernelRfl
namespace Go.eQ
open Go
structure cD where
 kind:Int
 n:Int
 s:ByteArray
structure dm where
 dev:Int
 cU:ByteArray
 attr:ByteArray
structure m0 where
 dev:Int
 cU:ByteArray
 name:ByteArray
structure bK where
 kind:Int
 de:Int
 key:dm
 name:ByteArray
 value:cD
 text:ByteArray
structure ha where
 token:ByteArray
 request:bK
structure nO where
 kind:Int
 n:Int
 m:Int
 key:dm
 value:cD
 event:m0
 asked:ha
structure cM where
 kind:Int
 attr:ByteArray
 n:Int
structure Attr where
 name:ByteArray
 kind:Int
 min:Int
 max:Int
 enum:List ByteArray
 fx:Bool
 safety:Bool
structure Command where
 name:ByteArray
 param:Attr
 gj:List cM
structure aK where
 name:ByteArray
 attrs:List Attr
 commands:List Command
 events:List ByteArray
structure bB where
 id:Int
 gZ:Int
 oJ:Int
 oK:Bool
 kR:Int
 room:ByteArray
 bl:List ByteArray
structure Home where
 bl:List aK
 bn:List bB
structure Change where
 at_:Int
 offset:Int
structure m1 where
 offset:Int
 changes:List Change
structure jN where
 kind:Int
 n:Int
 m:Int
 name:ByteArray
 value:cD
 key:dm
 kids:List jN
structure jj where
 key:dm
 value:cD
 version:Int
structure j5 where
 name:ByteArray
 zc1:Int
 when:jN
 zc2:Bool
 force:List jj
 zc3:List jj
structure Config where
 home:Home
 mY:List ByteArray
 mZ:List j5
 hI:m1
 key:Int
structure eT where
 from_:Int
 wm:Int
structure cu where
 name:ByteArray
 role:Int
 mW:List eT
 fU:List ByteArray
 home:Bool
structure eg where
 top:Int
 bits:Int
structure b8 where
 eC:ByteArray
 kB:eg
structure m2 where
 kind:Int
 name:ByteArray
 priority:Int
structure nP where
 key:dm
 value:cD
 zc4:m2
 order:Int
structure eN where
 eC:ByteArray
 id:Int
 oP:Int
 oQ:Int
structure Case where
 c:Config
 members:List cu
 k0:List b8
 lC:List Int
 a:ha
 now:Int
 ia:Int
structure Rd where
 rest:ByteArray
 err:Int
 made:Bool
structure nQ where
 s:ByteArray
 at_:Int
 bad:Int
 made:Bool
end Go.eQ
namespace Go.aM
open Go Go.eQ
inductive bL where
 |str
 |i64
 |bool
 |u8
 |cD
 |dm
 |m0
 |bK
 |ha
 |nO
 |cM
 |Attr
 |Command
 |aK
 |bB
 |Home
 |Change
 |m1
 |jN
 |jj
 |j5
 |Config
 |eT
 |cu
 |eg
 |b8
 |m2
 |nP
 |eN
 |Case
 |Rd
 |nQ
 deriving DecidableEq
def zc5:List bL:=[.str,.i64,.bool,.u8,.cD,.dm,.m0,.bK,.ha,.nO,.cM,.Attr,.Command,.aK,.bB,.Home,.Change,.m1,.jN,.jj,.j5,.Config,.eT,.cu,.eg,.b8,.m2,.nP,.eN,.Case,.Rd,.nQ]
@[reducible] def fJ:bL→Type
 | .str=>ByteArray
 | .i64=>Int
 | .bool=>Bool
 | .u8=>Int
 | .cD=>cD
 | .dm=>dm
 | .m0=>m0
 | .bK=>bK
 | .ha=>ha
 | .nO=>nO
 | .cM=>cM
 | .Attr=>Attr
 | .Command=>Command
 | .aK=>aK
 | .bB=>bB
 | .Home=>Home
 | .Change=>Change
 | .m1=>m1
 | .jN=>jN
 | .jj=>jj
 | .j5=>j5
 | .Config=>Config
 | .eT=>eT
 | .cu=>cu
 | .eg=>eg
 | .b8=>b8
 | .m2=>m2
 | .nP=>nP
 | .eN=>eN
 | .Case=>Case
 | .Rd=>Rd
 | .nQ=>nQ
def az:(i:bL)→fJ i
 | .str=>⟨#[]⟩
 | .i64=>0
 | .bool=>false
 | .u8=>0
 | .cD=>⟨0,0,⟨#[]⟩⟩
 | .dm=>⟨0,⟨#[]⟩,⟨#[]⟩⟩
 | .m0=>⟨0,⟨#[]⟩,⟨#[]⟩⟩
 | .bK=>⟨0,0,⟨0,⟨#[]⟩,⟨#[]⟩⟩,⟨#[]⟩,⟨0,0,⟨#[]⟩⟩,⟨#[]⟩⟩
 | .ha=>⟨⟨#[]⟩,⟨0,0,⟨0,⟨#[]⟩,⟨#[]⟩⟩,⟨#[]⟩,⟨0,0,⟨#[]⟩⟩,⟨#[]⟩⟩⟩
 | .nO=>⟨0,0,0,⟨0,⟨#[]⟩,⟨#[]⟩⟩,⟨0,0,⟨#[]⟩⟩,⟨0,⟨#[]⟩,⟨#[]⟩⟩,⟨⟨#[]⟩,⟨0,0,⟨0,⟨#[]⟩,⟨#[]⟩⟩,⟨#[]⟩,⟨0,0,⟨#[]⟩⟩,⟨#[]⟩⟩⟩⟩
 | .cM=>⟨0,⟨#[]⟩,0⟩
 | .Attr=>⟨⟨#[]⟩,0,0,0,[],false,false⟩
 | .Command=>⟨⟨#[]⟩,⟨⟨#[]⟩,0,0,0,[],false,false⟩,[]⟩
 | .aK=>⟨⟨#[]⟩,[],[],[]⟩
 | .bB=>⟨0,0,0,false,0,⟨#[]⟩,[]⟩
 | .Home=>⟨[],[]⟩
 | .Change=>⟨0,0⟩
 | .m1=>⟨0,[]⟩
 | .jN=>⟨0,0,0,⟨#[]⟩,⟨0,0,⟨#[]⟩⟩,⟨0,⟨#[]⟩,⟨#[]⟩⟩,[]⟩
 | .jj=>⟨⟨0,⟨#[]⟩,⟨#[]⟩⟩,⟨0,0,⟨#[]⟩⟩,0⟩
 | .j5=>⟨⟨#[]⟩,0,⟨0,0,0,⟨#[]⟩,⟨0,0,⟨#[]⟩⟩,⟨0,⟨#[]⟩,⟨#[]⟩⟩,[]⟩,false,[],[]⟩
 | .Config=>⟨⟨[],[]⟩,[],[],⟨0,[]⟩,0⟩
 | .eT=>⟨0,0⟩
 | .cu=>⟨⟨#[]⟩,0,[],[],false⟩
 | .eg=>⟨0,0⟩
 | .b8=>⟨⟨#[]⟩,⟨0,0⟩⟩
 | .m2=>⟨0,⟨#[]⟩,0⟩
 | .nP=>⟨⟨0,⟨#[]⟩,⟨#[]⟩⟩,⟨0,0,⟨#[]⟩⟩,⟨0,⟨#[]⟩,0⟩,0⟩
 | .eN=>⟨⟨#[]⟩,0,0,0⟩
 | .Case=>⟨⟨⟨[],[]⟩,[],[],⟨0,[]⟩,0⟩,[],[],[],⟨⟨#[]⟩,⟨0,0,⟨0,⟨#[]⟩,⟨#[]⟩⟩,⟨#[]⟩,⟨0,0,⟨#[]⟩⟩,⟨#[]⟩⟩⟩,0,0⟩
 | .Rd=>⟨⟨#[]⟩,0,false⟩
 | .nQ=>⟨⟨#[]⟩,0,0,false⟩
inductive aW where
 |int (k:IntKind)
 |bool
 |str
 |li (c:bL)
 |st (c:bL)
 |zP (x y:aW)
 |un
 |mp (k v:aW)
 deriving DecidableEq
@[reducible] def aW.den:aW→Type
 | .int _=>Int
 | .bool=>Bool
 | .str=>ByteArray
 | .li c=>List (fJ c)
 | .st c=>fJ c
 | .zP x y=>x.den × y.den
 | .un=>Unit
 | .mp k v=>List (k.den × v.den)
def aW.fu:(r:aW)→r.den
 | .int _=>(0:Int)
 | .bool=>false
 | .str=>(⟨#[]⟩:ByteArray)
 | .li c=>([]:List (fJ c))
 | .st c=>az c
 | .zP x y=>(x.fu,y.fu)
 | .un=>()
 | .mp k v=>([]:List (k.den × v.den))
structure aF where
 r:aW
 v:r.den
def aF.d:aF:=⟨.un,()⟩
def aF.aG(r:aW)(d:aF):r.den:=
 match decEq d.r r with
 | .isTrue h=>h ▸ d.v
 | .isFalse _=>r.fu
inductive a6 where
 |v (x:Value)
 |ptr (cs:List a6)
 |aO (n:Nat) (es:List (List a6))
 |mp (agg:Bool) (ks:List Value) (vs:List (List a6))
 |li (i:bL) (l:List (fJ i))
 |ep (t:TypeId) (agg:Bool) (cs:List a6)
def ke:(r:aW)→r.den→a6
 | .int k,n=>.v (.int k n)
 | .bool,b=>.v (.bool b)
 | .str,x=>.v (.string x)
 | .li c,l=>.li c l
 |_,_=>.v undef
def k8:(r:aW)→r.den→Value
 | .int k,n=>.int k n
 | .bool,b=>.bool b
 | .str,x=>.string x
 |_,_=>undef
def aW.agg:aW→Bool
 | .st _=>true
 |_=>false
end Go.aM
namespace Go.eQ
open Go Go.aM
def cD.cT(x:cD):List aF:=[⟨.int .i64,x.kind⟩,⟨.int .i64,x.n⟩,⟨.str,x.s⟩]
def dm.cT(x:dm):List aF:=[⟨.int .i64,x.dev⟩,⟨.str,x.cU⟩,⟨.str,x.attr⟩]
def m0.cT(x:m0):List aF:=[⟨.int .i64,x.dev⟩,⟨.str,x.cU⟩,⟨.str,x.name⟩]
def bK.cT(x:bK):List aF:=⟨.int .i64,x.kind⟩::⟨.int .i64,x.de⟩::(x.key.cT++⟨.str,x.name⟩::(x.value.cT++[⟨.str,x.text⟩]))
def ha.cT(x:ha):List aF:=⟨.str,x.token⟩::x.request.cT
def nO.cT(x:nO):List aF:=⟨.int .i64,x.kind⟩::⟨.int .i64,x.n⟩::⟨.int .i64,x.m⟩::(x.key.cT++(x.value.cT++(x.event.cT++x.asked.cT)))
def cM.cT(x:cM):List aF:=[⟨.int .i64,x.kind⟩,⟨.str,x.attr⟩,⟨.int .i64,x.n⟩]
def Attr.cT(x:Attr):List aF:=[⟨.str,x.name⟩,⟨.int .i64,x.kind⟩,⟨.int .i64,x.min⟩,⟨.int .i64,x.max⟩,⟨.li .str,x.enum⟩,⟨.bool,x.fx⟩,⟨.bool,x.safety⟩]
def Command.cT(x:Command):List aF:=⟨.str,x.name⟩::(x.param.cT++[⟨.li .cM,x.gj⟩])
def aK.cT(x:aK):List aF:=[⟨.str,x.name⟩,⟨.li .Attr,x.attrs⟩,⟨.li .Command,x.commands⟩,⟨.li .str,x.events⟩]
def bB.cT(x:bB):List aF:=[⟨.int .i64,x.id⟩,⟨.int .u64,x.gZ⟩,⟨.int .i64,x.oJ⟩,⟨.bool,x.oK⟩,⟨.int .i64,x.kR⟩,⟨.str,x.room⟩,⟨.li .str,x.bl⟩]
def Home.cT(x:Home):List aF:=[⟨.li .aK,x.bl⟩,⟨.li .bB,x.bn⟩]
def Change.cT(x:Change):List aF:=[⟨.int .i64,x.at_⟩,⟨.int .i64,x.offset⟩]
def m1.cT(x:m1):List aF:=[⟨.int .i64,x.offset⟩,⟨.li .Change,x.changes⟩]
def jN.cT(x:jN):List aF:=⟨.int .i64,x.kind⟩::⟨.int .i64,x.n⟩::⟨.int .i64,x.m⟩::⟨.str,x.name⟩::(x.value.cT++(x.key.cT++[⟨.li .jN,x.kids⟩]))
def jj.cT(x:jj):List aF:=(x.key.cT++(x.value.cT++[⟨.int .i64,x.version⟩]))
def j5.cT(x:j5):List aF:=⟨.str,x.name⟩::⟨.int .i64,x.zc1⟩::(x.when.cT++[⟨.bool,x.zc2⟩,⟨.li .jj,x.force⟩,⟨.li .jj,x.zc3⟩])
def Config.cT(x:Config):List aF:=(x.home.cT++⟨.li .str,x.mY⟩::⟨.li .j5,x.mZ⟩::(x.hI.cT++[⟨.int .u64,x.key⟩]))
def eT.cT(x:eT):List aF:=[⟨.int .i64,x.from_⟩,⟨.int .i64,x.wm⟩]
def cu.cT(x:cu):List aF:=[⟨.str,x.name⟩,⟨.int .i64,x.role⟩,⟨.li .eT,x.mW⟩,⟨.li .str,x.fU⟩,⟨.bool,x.home⟩]
def eg.cT(x:eg):List aF:=[⟨.int .i64,x.top⟩,⟨.int .u64,x.bits⟩]
def b8.cT(x:b8):List aF:=⟨.str,x.eC⟩::x.kB.cT
def m2.cT(x:m2):List aF:=[⟨.int .i64,x.kind⟩,⟨.str,x.name⟩,⟨.int .i64,x.priority⟩]
def nP.cT(x:nP):List aF:=(x.key.cT++(x.value.cT++(x.zc4.cT++[⟨.int .i64,x.order⟩])))
def eN.cT(x:eN):List aF:=[⟨.str,x.eC⟩,⟨.int .i64,x.id⟩,⟨.int .i64,x.oP⟩,⟨.int .i64,x.oQ⟩]
def Case.cT(x:Case):List aF:=(x.c.cT++⟨.li .cu,x.members⟩::⟨.li .b8,x.k0⟩::⟨.li .i64,x.lC⟩::(x.a.cT++[⟨.int .i64,x.now⟩,⟨.int .i64,x.ia⟩]))
def Rd.cT(x:Rd):List aF:=[⟨.str,x.rest⟩,⟨.int .i64,x.err⟩,⟨.bool,x.made⟩]
def nQ.cT(x:nQ):List aF:=[⟨.str,x.s⟩,⟨.int .i64,x.at_⟩,⟨.int .i64,x.bad⟩,⟨.bool,x.made⟩]
end Go.eQ
namespace Go.aM
open Go Go.eQ
def kT:(i:bL)→fJ i→List aF
 | .str,x=>[⟨.str,x⟩]
 | .i64,x=>[⟨.int .i64,x⟩]
 | .bool,x=>[⟨.bool,x⟩]
 | .u8,x=>[⟨.int .u8,x⟩]
 | .cD,x=>x.cT
 | .dm,x=>x.cT
 | .m0,x=>x.cT
 | .bK,x=>x.cT
 | .ha,x=>x.cT
 | .nO,x=>x.cT
 | .cM,x=>x.cT
 | .Attr,x=>x.cT
 | .Command,x=>x.cT
 | .aK,x=>x.cT
 | .bB,x=>x.cT
 | .Home,x=>x.cT
 | .Change,x=>x.cT
 | .m1,x=>x.cT
 | .jN,x=>x.cT
 | .jj,x=>x.cT
 | .j5,x=>x.cT
 | .Config,x=>x.cT
 | .eT,x=>x.cT
 | .cu,x=>x.cT
 | .eg,x=>x.cT
 | .b8,x=>x.cT
 | .m2,x=>x.cT
 | .nP,x=>x.cT
 | .eN,x=>x.cT
 | .Case,x=>x.cT
 | .Rd,x=>x.cT
 | .nQ,x=>x.cT
def ix:(r:aW)→r.den→List a6
 | .st c,x=>(kT c x).map fun d=>ke d.r d.v
 |r,x=>[ke r x]
def fC:(r:aW)→r.den→a6
 | .mp k v,l=>.mp v.agg (l.map fun p=>k8 k p.1) (l.map fun p=>ix v p.2)
 |r,x=>ke r x
def aF.av(d:aF):a6:=fC d.r d.v
def eY:bL→List aW
 | .str=>[.str]
 | .i64=>[.int .i64]
 | .bool=>[.bool]
 | .u8=>[.int .u8]
 | .cD=>[.int .i64,.int .i64,.str]
 | .dm=>[.int .i64,.str,.str]
 | .m0=>[.int .i64,.str,.str]
 | .bK=>[.int .i64,.int .i64,.int .i64,.str,.str,.str,.int .i64,.int .i64,.str,.str]
 | .ha=>[.str,.int .i64,.int .i64,.int .i64,.str,.str,.str,.int .i64,.int .i64,.str,.str]
 | .nO=>[.int .i64,.int .i64,.int .i64,.int .i64,.str,.str,.int .i64,.int .i64,.str,.int .i64,.str,.str,.str,.int .i64,.int .i64,.int .i64,.str,.str,.str,.int .i64,.int .i64,.str,.str]
 | .cM=>[.int .i64,.str,.int .i64]
 | .Attr=>[.str,.int .i64,.int .i64,.int .i64,.li .str,.bool,.bool]
 | .Command=>[.str,.str,.int .i64,.int .i64,.int .i64,.li .str,.bool,.bool,.li .cM]
 | .aK=>[.str,.li .Attr,.li .Command,.li .str]
 | .bB=>[.int .i64,.int .u64,.int .i64,.bool,.int .i64,.str,.li .str]
 | .Home=>[.li .aK,.li .bB]
 | .Change=>[.int .i64,.int .i64]
 | .m1=>[.int .i64,.li .Change]
 | .jN=>[.int .i64,.int .i64,.int .i64,.str,.int .i64,.int .i64,.str,.int .i64,.str,.str,.li .jN]
 | .jj=>[.int .i64,.str,.str,.int .i64,.int .i64,.str,.int .i64]
 | .j5=>[.str,.int .i64,.int .i64,.int .i64,.int .i64,.str,.int .i64,.int .i64,.str,.int .i64,.str,.str,.li .jN,.bool,.li .jj,.li .jj]
 | .Config=>[.li .aK,.li .bB,.li .str,.li .j5,.int .i64,.li .Change,.int .u64]
 | .eT=>[.int .i64,.int .i64]
 | .cu=>[.str,.int .i64,.li .eT,.li .str,.bool]
 | .eg=>[.int .i64,.int .u64]
 | .b8=>[.str,.int .i64,.int .u64]
 | .m2=>[.int .i64,.str,.int .i64]
 | .nP=>[.int .i64,.str,.str,.int .i64,.int .i64,.str,.int .i64,.str,.int .i64,.int .i64]
 | .eN=>[.str,.int .i64,.int .i64,.int .i64]
 | .Case=>[.li .aK,.li .bB,.li .str,.li .j5,.int .i64,.li .Change,.int .u64,.li .cu,.li .b8,.li .i64,.str,.int .i64,.int .i64,.int .i64,.str,.str,.str,.int .i64,.int .i64,.str,.str,.int .i64,.int .i64]
 | .Rd=>[.str,.int .i64,.bool]
 | .nQ=>[.str,.int .i64,.int .i64,.bool]
def pa:(i:bL)→List aF→fJ i
 | .str,l=>(l.getD 0 aF.d).aG (.str)
 | .i64,l=>(l.getD 0 aF.d).aG (.int .i64)
 | .bool,l=>(l.getD 0 aF.d).aG (.bool)
 | .u8,l=>(l.getD 0 aF.d).aG (.int .u8)
 | .cD,l=>⟨(l.getD 0 aF.d).aG (.int .i64),(l.getD 1 aF.d).aG (.int .i64),(l.getD 2 aF.d).aG (.str)⟩
 | .dm,l=>⟨(l.getD 0 aF.d).aG (.int .i64),(l.getD 1 aF.d).aG (.str),(l.getD 2 aF.d).aG (.str)⟩
 | .m0,l=>⟨(l.getD 0 aF.d).aG (.int .i64),(l.getD 1 aF.d).aG (.str),(l.getD 2 aF.d).aG (.str)⟩
 | .bK,l=>⟨(l.getD 0 aF.d).aG (.int .i64),(l.getD 1 aF.d).aG (.int .i64),⟨(l.getD 2 aF.d).aG (.int .i64),(l.getD 3 aF.d).aG (.str),(l.getD 4 aF.d).aG (.str)⟩,(l.getD 5 aF.d).aG (.str),⟨(l.getD 6 aF.d).aG (.int .i64),(l.getD 7 aF.d).aG (.int .i64),(l.getD 8 aF.d).aG (.str)⟩,(l.getD 9 aF.d).aG (.str)⟩
 | .ha,l=>⟨(l.getD 0 aF.d).aG (.str),⟨(l.getD 1 aF.d).aG (.int .i64),(l.getD 2 aF.d).aG (.int .i64),⟨(l.getD 3 aF.d).aG (.int .i64),(l.getD 4 aF.d).aG (.str),(l.getD 5 aF.d).aG (.str)⟩,(l.getD 6 aF.d).aG (.str),⟨(l.getD 7 aF.d).aG (.int .i64),(l.getD 8 aF.d).aG (.int .i64),(l.getD 9 aF.d).aG (.str)⟩,(l.getD 10 aF.d).aG (.str)⟩⟩
 | .nO,l=>⟨(l.getD 0 aF.d).aG (.int .i64),(l.getD 1 aF.d).aG (.int .i64),(l.getD 2 aF.d).aG (.int .i64),⟨(l.getD 3 aF.d).aG (.int .i64),(l.getD 4 aF.d).aG (.str),(l.getD 5 aF.d).aG (.str)⟩,⟨(l.getD 6 aF.d).aG (.int .i64),(l.getD 7 aF.d).aG (.int .i64),(l.getD 8 aF.d).aG (.str)⟩,⟨(l.getD 9 aF.d).aG (.int .i64),(l.getD 10 aF.d).aG (.str),(l.getD 11 aF.d).aG (.str)⟩,⟨(l.getD 12 aF.d).aG (.str),⟨(l.getD 13 aF.d).aG (.int .i64),(l.getD 14 aF.d).aG (.int .i64),⟨(l.getD 15 aF.d).aG (.int .i64),(l.getD 16 aF.d).aG (.str),(l.getD 17 aF.d).aG (.str)⟩,(l.getD 18 aF.d).aG (.str),⟨(l.getD 19 aF.d).aG (.int .i64),(l.getD 20 aF.d).aG (.int .i64),(l.getD 21 aF.d).aG (.str)⟩,(l.getD 22 aF.d).aG (.str)⟩⟩⟩
 | .cM,l=>⟨(l.getD 0 aF.d).aG (.int .i64),(l.getD 1 aF.d).aG (.str),(l.getD 2 aF.d).aG (.int .i64)⟩
 | .Attr,l=>⟨(l.getD 0 aF.d).aG (.str),(l.getD 1 aF.d).aG (.int .i64),(l.getD 2 aF.d).aG (.int .i64),(l.getD 3 aF.d).aG (.int .i64),(l.getD 4 aF.d).aG (.li .str),(l.getD 5 aF.d).aG (.bool),(l.getD 6 aF.d).aG (.bool)⟩
 | .Command,l=>⟨(l.getD 0 aF.d).aG (.str),⟨(l.getD 1 aF.d).aG (.str),(l.getD 2 aF.d).aG (.int .i64),(l.getD 3 aF.d).aG (.int .i64),(l.getD 4 aF.d).aG (.int .i64),(l.getD 5 aF.d).aG (.li .str),(l.getD 6 aF.d).aG (.bool),(l.getD 7 aF.d).aG (.bool)⟩,(l.getD 8 aF.d).aG (.li .cM)⟩
 | .aK,l=>⟨(l.getD 0 aF.d).aG (.str),(l.getD 1 aF.d).aG (.li .Attr),(l.getD 2 aF.d).aG (.li .Command),(l.getD 3 aF.d).aG (.li .str)⟩
 | .bB,l=>⟨(l.getD 0 aF.d).aG (.int .i64),(l.getD 1 aF.d).aG (.int .u64),(l.getD 2 aF.d).aG (.int .i64),(l.getD 3 aF.d).aG (.bool),(l.getD 4 aF.d).aG (.int .i64),(l.getD 5 aF.d).aG (.str),(l.getD 6 aF.d).aG (.li .str)⟩
 | .Home,l=>⟨(l.getD 0 aF.d).aG (.li .aK),(l.getD 1 aF.d).aG (.li .bB)⟩
 | .Change,l=>⟨(l.getD 0 aF.d).aG (.int .i64),(l.getD 1 aF.d).aG (.int .i64)⟩
 | .m1,l=>⟨(l.getD 0 aF.d).aG (.int .i64),(l.getD 1 aF.d).aG (.li .Change)⟩
 | .jN,l=>⟨(l.getD 0 aF.d).aG (.int .i64),(l.getD 1 aF.d).aG (.int .i64),(l.getD 2 aF.d).aG (.int .i64),(l.getD 3 aF.d).aG (.str),⟨(l.getD 4 aF.d).aG (.int .i64),(l.getD 5 aF.d).aG (.int .i64),(l.getD 6 aF.d).aG (.str)⟩,⟨(l.getD 7 aF.d).aG (.int .i64),(l.getD 8 aF.d).aG (.str),(l.getD 9 aF.d).aG (.str)⟩,(l.getD 10 aF.d).aG (.li .jN)⟩
 | .jj,l=>⟨⟨(l.getD 0 aF.d).aG (.int .i64),(l.getD 1 aF.d).aG (.str),(l.getD 2 aF.d).aG (.str)⟩,⟨(l.getD 3 aF.d).aG (.int .i64),(l.getD 4 aF.d).aG (.int .i64),(l.getD 5 aF.d).aG (.str)⟩,(l.getD 6 aF.d).aG (.int .i64)⟩
 | .j5,l=>⟨(l.getD 0 aF.d).aG (.str),(l.getD 1 aF.d).aG (.int .i64),⟨(l.getD 2 aF.d).aG (.int .i64),(l.getD 3 aF.d).aG (.int .i64),(l.getD 4 aF.d).aG (.int .i64),(l.getD 5 aF.d).aG (.str),⟨(l.getD 6 aF.d).aG (.int .i64),(l.getD 7 aF.d).aG (.int .i64),(l.getD 8 aF.d).aG (.str)⟩,⟨(l.getD 9 aF.d).aG (.int .i64),(l.getD 10 aF.d).aG (.str),(l.getD 11 aF.d).aG (.str)⟩,(l.getD 12 aF.d).aG (.li .jN)⟩,(l.getD 13 aF.d).aG (.bool),(l.getD 14 aF.d).aG (.li .jj),(l.getD 15 aF.d).aG (.li .jj)⟩
 | .Config,l=>⟨⟨(l.getD 0 aF.d).aG (.li .aK),(l.getD 1 aF.d).aG (.li .bB)⟩,(l.getD 2 aF.d).aG (.li .str),(l.getD 3 aF.d).aG (.li .j5),⟨(l.getD 4 aF.d).aG (.int .i64),(l.getD 5 aF.d).aG (.li .Change)⟩,(l.getD 6 aF.d).aG (.int .u64)⟩
 | .eT,l=>⟨(l.getD 0 aF.d).aG (.int .i64),(l.getD 1 aF.d).aG (.int .i64)⟩
 | .cu,l=>⟨(l.getD 0 aF.d).aG (.str),(l.getD 1 aF.d).aG (.int .i64),(l.getD 2 aF.d).aG (.li .eT),(l.getD 3 aF.d).aG (.li .str),(l.getD 4 aF.d).aG (.bool)⟩
 | .eg,l=>⟨(l.getD 0 aF.d).aG (.int .i64),(l.getD 1 aF.d).aG (.int .u64)⟩
 | .b8,l=>⟨(l.getD 0 aF.d).aG (.str),⟨(l.getD 1 aF.d).aG (.int .i64),(l.getD 2 aF.d).aG (.int .u64)⟩⟩
 | .m2,l=>⟨(l.getD 0 aF.d).aG (.int .i64),(l.getD 1 aF.d).aG (.str),(l.getD 2 aF.d).aG (.int .i64)⟩
 | .nP,l=>⟨⟨(l.getD 0 aF.d).aG (.int .i64),(l.getD 1 aF.d).aG (.str),(l.getD 2 aF.d).aG (.str)⟩,⟨(l.getD 3 aF.d).aG (.int .i64),(l.getD 4 aF.d).aG (.int .i64),(l.getD 5 aF.d).aG (.str)⟩,⟨(l.getD 6 aF.d).aG (.int .i64),(l.getD 7 aF.d).aG (.str),(l.getD 8 aF.d).aG (.int .i64)⟩,(l.getD 9 aF.d).aG (.int .i64)⟩
 | .eN,l=>⟨(l.getD 0 aF.d).aG (.str),(l.getD 1 aF.d).aG (.int .i64),(l.getD 2 aF.d).aG (.int .i64),(l.getD 3 aF.d).aG (.int .i64)⟩
 | .Case,l=>⟨⟨⟨(l.getD 0 aF.d).aG (.li .aK),(l.getD 1 aF.d).aG (.li .bB)⟩,(l.getD 2 aF.d).aG (.li .str),(l.getD 3 aF.d).aG (.li .j5),⟨(l.getD 4 aF.d).aG (.int .i64),(l.getD 5 aF.d).aG (.li .Change)⟩,(l.getD 6 aF.d).aG (.int .u64)⟩,(l.getD 7 aF.d).aG (.li .cu),(l.getD 8 aF.d).aG (.li .b8),(l.getD 9 aF.d).aG (.li .i64),⟨(l.getD 10 aF.d).aG (.str),⟨(l.getD 11 aF.d).aG (.int .i64),(l.getD 12 aF.d).aG (.int .i64),⟨(l.getD 13 aF.d).aG (.int .i64),(l.getD 14 aF.d).aG (.str),(l.getD 15 aF.d).aG (.str)⟩,(l.getD 16 aF.d).aG (.str),⟨(l.getD 17 aF.d).aG (.int .i64),(l.getD 18 aF.d).aG (.int .i64),(l.getD 19 aF.d).aG (.str)⟩,(l.getD 20 aF.d).aG (.str)⟩⟩,(l.getD 21 aF.d).aG (.int .i64),(l.getD 22 aF.d).aG (.int .i64)⟩
 | .Rd,l=>⟨(l.getD 0 aF.d).aG (.str),(l.getD 1 aF.d).aG (.int .i64),(l.getD 2 aF.d).aG (.bool)⟩
 | .nQ,l=>⟨(l.getD 0 aF.d).aG (.str),(l.getD 1 aF.d).aG (.int .i64),(l.getD 2 aF.d).aG (.int .i64),(l.getD 3 aF.d).aG (.bool)⟩
def cb(i:bL)(x:fJ i):List a6:=(kT i x).map aF.av
def bZ:bL→Nat
 | .str=>1
 | .i64=>1
 | .bool=>1
 | .u8=>1
 | .cD=>3
 | .dm=>3
 | .m0=>3
 | .bK=>10
 | .ha=>11
 | .nO=>23
 | .cM=>3
 | .Attr=>7
 | .Command=>9
 | .aK=>4
 | .bB=>7
 | .Home=>2
 | .Change=>2
 | .m1=>2
 | .jN=>11
 | .jj=>7
 | .j5=>16
 | .Config=>7
 | .eT=>2
 | .cu=>5
 | .eg=>2
 | .b8=>3
 | .m2=>3
 | .nP=>10
 | .eN=>4
 | .Case=>23
 | .Rd=>3
 | .nQ=>4
theorem Kf(i:bL)(x:fJ i):(kT i x).map aF.r=eY i:=by cases i<;>rfl
theorem Dm(i:bL)(x:fJ i):(cb i x).length=bZ i:=by cases i<;>rfl
theorem zQ(d:aF):(⟨d.r,d.aG d.r⟩:aF)=d:=by
 unfold aF.aG
 split
 ·rfl
 ·rename_i h _;exact absurd rfl h
theorem Dn{d:aF}{r:aW}(h:d.r=r):(⟨r,d.aG r⟩:aF)=d:=by subst h;exact zQ d
theorem mz{α β:Type}{f:α→β}{l:List α}(h:l.map f=[]):l=[]:=by cases l<;>simp_all
theorem lK{α β:Type}{f:α→β}{l:List α}{b:β}{cO:List β}(h:l.map f=b::cO): ∃a h2,l=a::h2∧f a=b∧h2.map f=cO:=by
 cases l with
 |nil=>cases h
 |cons a h2=>simp only[List.map_cons,List.cons.injEq]at h;exact⟨a,h2,rfl,h.1,h.2⟩
theorem Dp(i:bL)(l:List aF)(h:l.map aF.r=eY i):kT i (pa i l)=l:=by
 cases i<;>simp only[eY]at h<;>(repeat (obtain⟨_,_,rfl,af,h⟩:=lK h;rw[←Dn af];clear af))<;>(cases mz h)<;>rfl
def zc6:List Nat:=[183,117]
end Go.aM
