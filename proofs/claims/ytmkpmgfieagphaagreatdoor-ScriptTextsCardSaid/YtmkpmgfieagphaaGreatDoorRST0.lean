/- Test: the data as Lean structures, codes of types, typed values, immutable values. Conditions: none. -/
import Derived.WalkKit
import Derived.KernelRfl
namespace Go.ed
open Go
structure bI where
 kind:Int
 n:Int
 s:ByteArray
structure h5 where
 dev:Int
 bp:ByteArray
 attr:ByteArray
structure mS where
 dev:Int
 bp:ByteArray
 name:ByteArray
structure dI where
 kind:Int
 cY:Int
 key:h5
 name:ByteArray
 value:bI
 text:ByteArray
structure jJ where
 token:ByteArray
 request:dI
structure aK where
 kind:Int
 n:Int
 m:Int
 key:h5
 value:bI
 event:mS
 asked:jJ
structure k2 where
 kind:Int
 attr:ByteArray
 n:Int
structure Attr where
 name:ByteArray
 kind:Int
 min:Int
 max:Int
 enum:List ByteArray
 YT:Bool
 safety:Bool
structure Command where
 name:ByteArray
 param:Attr
 YU:List k2
structure iN where
 name:ByteArray
 attrs:List Attr
 commands:List Command
 events:List ByteArray
structure iP where
 id:Int
 YV:Int
 YW:Int
 YX:Bool
 YY:Int
 room:ByteArray
 H7:List ByteArray
structure Home where
 H7:List iN
 YZ:List iP
structure Change where
 at_:Int
 offset:Int
structure mT where
 offset:Int
 changes:List Change
structure js where
 kind:Int
 n:Int
 m:Int
 name:ByteArray
 value:bI
 key:h5
 kids:List js
structure iO where
 key:h5
 value:bI
 version:Int
structure jP where
 name:ByteArray
 Y0:Int
 when:js
 Y1:Bool
 force:List iO
 Y2:List iO
structure Config where
 home:Home
 Y3:List ByteArray
 Y4:List jP
 Y5:mT
 key:Int
structure k3 where
 from_:Int
 Y6:Int
structure k1 where
 name:ByteArray
 role:Int
 Y7:List k3
 Y8:List ByteArray
 home:Bool
structure mU where
 top:Int
 bits:Int
structure k0 where
 H8:ByteArray
 Y9:mU
structure mV where
 kind:Int
 name:ByteArray
 priority:Int
structure nJ where
 key:h5
 value:bI
 Za:mV
 order:Int
structure nI where
 H8:ByteArray
 id:Int
 Zb:Int
 Zc:Int
structure Case where
 c:Config
 members:List k1
 Zd:List k0
 Ze:List Int
 a:jJ
 now:Int
 Zf:Int
structure Rd where
 rest:ByteArray
 err:Int
 made:Bool
structure ch where
 s:ByteArray
 at_:Int
 bad:Int
 made:Bool
end Go.ed
namespace Go.aM
open Go Go.ed
inductive bO where
 |str
 |i64
 |bool
 |u8
 |bI
 |h5
 |mS
 |dI
 |jJ
 |aK
 |k2
 |Attr
 |Command
 |iN
 |iP
 |Home
 |Change
 |mT
 |js
 |iO
 |jP
 |Config
 |k3
 |k1
 |mU
 |k0
 |mV
 |nJ
 |nI
 |Case
 |Rd
 |ch
 deriving DecidableEq
def Zg:List bO:=[.str,.i64,.bool,.u8,.bI,.h5,.mS,.dI,.jJ,.aK,.k2,.Attr,.Command,.iN,.iP,.Home,.Change,.mT,.js,.iO,.jP,.Config,.k3,.k1,.mU,.k0,.mV,.nJ,.nI,.Case,.Rd,.ch]
@[reducible] def gh:bO→Type
 | .str=>ByteArray
 | .i64=>Int
 | .bool=>Bool
 | .u8=>Int
 | .bI=>bI
 | .h5=>h5
 | .mS=>mS
 | .dI=>dI
 | .jJ=>jJ
 | .aK=>aK
 | .k2=>k2
 | .Attr=>Attr
 | .Command=>Command
 | .iN=>iN
 | .iP=>iP
 | .Home=>Home
 | .Change=>Change
 | .mT=>mT
 | .js=>js
 | .iO=>iO
 | .jP=>jP
 | .Config=>Config
 | .k3=>k3
 | .k1=>k1
 | .mU=>mU
 | .k0=>k0
 | .mV=>mV
 | .nJ=>nJ
 | .nI=>nI
 | .Case=>Case
 | .Rd=>Rd
 | .ch=>ch
def dJ:(i:bO)→gh i
 | .str=>⟨#[]⟩
 | .i64=>0
 | .bool=>false
 | .u8=>0
 | .bI=>⟨0,0,⟨#[]⟩⟩
 | .h5=>⟨0,⟨#[]⟩,⟨#[]⟩⟩
 | .mS=>⟨0,⟨#[]⟩,⟨#[]⟩⟩
 | .dI=>⟨0,0,⟨0,⟨#[]⟩,⟨#[]⟩⟩,⟨#[]⟩,⟨0,0,⟨#[]⟩⟩,⟨#[]⟩⟩
 | .jJ=>⟨⟨#[]⟩,⟨0,0,⟨0,⟨#[]⟩,⟨#[]⟩⟩,⟨#[]⟩,⟨0,0,⟨#[]⟩⟩,⟨#[]⟩⟩⟩
 | .aK=>⟨0,0,0,⟨0,⟨#[]⟩,⟨#[]⟩⟩,⟨0,0,⟨#[]⟩⟩,⟨0,⟨#[]⟩,⟨#[]⟩⟩,⟨⟨#[]⟩,⟨0,0,⟨0,⟨#[]⟩,⟨#[]⟩⟩,⟨#[]⟩,⟨0,0,⟨#[]⟩⟩,⟨#[]⟩⟩⟩⟩
 | .k2=>⟨0,⟨#[]⟩,0⟩
 | .Attr=>⟨⟨#[]⟩,0,0,0,[],false,false⟩
 | .Command=>⟨⟨#[]⟩,⟨⟨#[]⟩,0,0,0,[],false,false⟩,[]⟩
 | .iN=>⟨⟨#[]⟩,[],[],[]⟩
 | .iP=>⟨0,0,0,false,0,⟨#[]⟩,[]⟩
 | .Home=>⟨[],[]⟩
 | .Change=>⟨0,0⟩
 | .mT=>⟨0,[]⟩
 | .js=>⟨0,0,0,⟨#[]⟩,⟨0,0,⟨#[]⟩⟩,⟨0,⟨#[]⟩,⟨#[]⟩⟩,[]⟩
 | .iO=>⟨⟨0,⟨#[]⟩,⟨#[]⟩⟩,⟨0,0,⟨#[]⟩⟩,0⟩
 | .jP=>⟨⟨#[]⟩,0,⟨0,0,0,⟨#[]⟩,⟨0,0,⟨#[]⟩⟩,⟨0,⟨#[]⟩,⟨#[]⟩⟩,[]⟩,false,[],[]⟩
 | .Config=>⟨⟨[],[]⟩,[],[],⟨0,[]⟩,0⟩
 | .k3=>⟨0,0⟩
 | .k1=>⟨⟨#[]⟩,0,[],[],false⟩
 | .mU=>⟨0,0⟩
 | .k0=>⟨⟨#[]⟩,⟨0,0⟩⟩
 | .mV=>⟨0,⟨#[]⟩,0⟩
 | .nJ=>⟨⟨0,⟨#[]⟩,⟨#[]⟩⟩,⟨0,0,⟨#[]⟩⟩,⟨0,⟨#[]⟩,0⟩,0⟩
 | .nI=>⟨⟨#[]⟩,0,0,0⟩
 | .Case=>⟨⟨⟨[],[]⟩,[],[],⟨0,[]⟩,0⟩,[],[],[],⟨⟨#[]⟩,⟨0,0,⟨0,⟨#[]⟩,⟨#[]⟩⟩,⟨#[]⟩,⟨0,0,⟨#[]⟩⟩,⟨#[]⟩⟩⟩,0,0⟩
 | .Rd=>⟨⟨#[]⟩,0,false⟩
 | .ch=>⟨⟨#[]⟩,0,0,false⟩
inductive aZ where
 |int (k:IntKind)
 |bool
 |str
 |li (c:bO)
 |st (c:bO)
 |H9 (x y:aZ)
 |un
 |mp (k v:aZ)
 deriving DecidableEq
@[reducible] def aZ.den:aZ→Type
 | .int _=>Int
 | .bool=>Bool
 | .str=>ByteArray
 | .li c=>List (gh c)
 | .st c=>gh c
 | .H9 x y=>x.den × y.den
 | .un=>Unit
 | .mp k v=>List (k.den × v.den)
def aZ.gH:(r:aZ)→r.den
 | .int _=>(0:Int)
 | .bool=>false
 | .str=>(⟨#[]⟩:ByteArray)
 | .li c=>([]:List (gh c))
 | .st c=>dJ c
 | .H9 x y=>(x.gH,y.gH)
 | .un=>()
 | .mp k v=>([]:List (k.den × v.den))
structure aD where
 r:aZ
 v:r.den
def aD.d:aD:=⟨.un,()⟩
def aD.as(r:aZ)(d:aD):r.den:=
 match decEq d.r r with
 | .isTrue h=>h ▸ d.v
 | .isFalse _=>r.gH
inductive bh where
 |v (x:Value)
 |ptr (cs:List bh)
 |aP (n:Nat) (es:List (List bh))
 |mp (agg:Bool) (ks:List Value) (vs:List (List bh))
 |li (i:bO) (l:List (gh i))
def lK:(r:aZ)→r.den→bh
 | .int k,n=>.v (.int k n)
 | .bool,b=>.v (.bool b)
 | .str,x=>.v (.string x)
 | .li c,l=>.li c l
 |_,_=>.v undef
def Zh:(r:aZ)→r.den→Value
 | .int k,n=>.int k n
 | .bool,b=>.bool b
 | .str,x=>.string x
 |_,_=>undef
def aZ.agg:aZ→Bool
 | .st _=>true
 |_=>false
end Go.aM
namespace Go.ed
open Go Go.aM
def bI.cB(x:bI):List aD:=[⟨.int .i64,x.kind⟩,⟨.int .i64,x.n⟩,⟨.str,x.s⟩]
def h5.cB(x:h5):List aD:=[⟨.int .i64,x.dev⟩,⟨.str,x.bp⟩,⟨.str,x.attr⟩]
def mS.cB(x:mS):List aD:=[⟨.int .i64,x.dev⟩,⟨.str,x.bp⟩,⟨.str,x.name⟩]
def dI.cB(x:dI):List aD:=⟨.int .i64,x.kind⟩::⟨.int .i64,x.cY⟩::(x.key.cB++⟨.str,x.name⟩::(x.value.cB++[⟨.str,x.text⟩]))
def jJ.cB(x:jJ):List aD:=⟨.str,x.token⟩::x.request.cB
def aK.cB(x:aK):List aD:=⟨.int .i64,x.kind⟩::⟨.int .i64,x.n⟩::⟨.int .i64,x.m⟩::(x.key.cB++(x.value.cB++(x.event.cB++x.asked.cB)))
def k2.cB(x:k2):List aD:=[⟨.int .i64,x.kind⟩,⟨.str,x.attr⟩,⟨.int .i64,x.n⟩]
def Attr.cB(x:Attr):List aD:=[⟨.str,x.name⟩,⟨.int .i64,x.kind⟩,⟨.int .i64,x.min⟩,⟨.int .i64,x.max⟩,⟨.li .str,x.enum⟩,⟨.bool,x.YT⟩,⟨.bool,x.safety⟩]
def Command.cB(x:Command):List aD:=⟨.str,x.name⟩::(x.param.cB++[⟨.li .k2,x.YU⟩])
def iN.cB(x:iN):List aD:=[⟨.str,x.name⟩,⟨.li .Attr,x.attrs⟩,⟨.li .Command,x.commands⟩,⟨.li .str,x.events⟩]
def iP.cB(x:iP):List aD:=[⟨.int .i64,x.id⟩,⟨.int .u64,x.YV⟩,⟨.int .i64,x.YW⟩,⟨.bool,x.YX⟩,⟨.int .i64,x.YY⟩,⟨.str,x.room⟩,⟨.li .str,x.H7⟩]
def Home.cB(x:Home):List aD:=[⟨.li .iN,x.H7⟩,⟨.li .iP,x.YZ⟩]
def Change.cB(x:Change):List aD:=[⟨.int .i64,x.at_⟩,⟨.int .i64,x.offset⟩]
def mT.cB(x:mT):List aD:=[⟨.int .i64,x.offset⟩,⟨.li .Change,x.changes⟩]
def js.cB(x:js):List aD:=⟨.int .i64,x.kind⟩::⟨.int .i64,x.n⟩::⟨.int .i64,x.m⟩::⟨.str,x.name⟩::(x.value.cB++(x.key.cB++[⟨.li .js,x.kids⟩]))
def iO.cB(x:iO):List aD:=(x.key.cB++(x.value.cB++[⟨.int .i64,x.version⟩]))
def jP.cB(x:jP):List aD:=⟨.str,x.name⟩::⟨.int .i64,x.Y0⟩::(x.when.cB++[⟨.bool,x.Y1⟩,⟨.li .iO,x.force⟩,⟨.li .iO,x.Y2⟩])
def Config.cB(x:Config):List aD:=(x.home.cB++⟨.li .str,x.Y3⟩::⟨.li .jP,x.Y4⟩::(x.Y5.cB++[⟨.int .u64,x.key⟩]))
def k3.cB(x:k3):List aD:=[⟨.int .i64,x.from_⟩,⟨.int .i64,x.Y6⟩]
def k1.cB(x:k1):List aD:=[⟨.str,x.name⟩,⟨.int .i64,x.role⟩,⟨.li .k3,x.Y7⟩,⟨.li .str,x.Y8⟩,⟨.bool,x.home⟩]
def mU.cB(x:mU):List aD:=[⟨.int .i64,x.top⟩,⟨.int .u64,x.bits⟩]
def k0.cB(x:k0):List aD:=⟨.str,x.H8⟩::x.Y9.cB
def mV.cB(x:mV):List aD:=[⟨.int .i64,x.kind⟩,⟨.str,x.name⟩,⟨.int .i64,x.priority⟩]
def nJ.cB(x:nJ):List aD:=(x.key.cB++(x.value.cB++(x.Za.cB++[⟨.int .i64,x.order⟩])))
def nI.cB(x:nI):List aD:=[⟨.str,x.H8⟩,⟨.int .i64,x.id⟩,⟨.int .i64,x.Zb⟩,⟨.int .i64,x.Zc⟩]
def Case.cB(x:Case):List aD:=(x.c.cB++⟨.li .k1,x.members⟩::⟨.li .k0,x.Zd⟩::⟨.li .i64,x.Ze⟩::(x.a.cB++[⟨.int .i64,x.now⟩,⟨.int .i64,x.Zf⟩]))
def Rd.cB(x:Rd):List aD:=[⟨.str,x.rest⟩,⟨.int .i64,x.err⟩,⟨.bool,x.made⟩]
def ch.cB(x:ch):List aD:=[⟨.str,x.s⟩,⟨.int .i64,x.at_⟩,⟨.int .i64,x.bad⟩,⟨.bool,x.made⟩]
end Go.ed
namespace Go.aM
open Go Go.ed
def l3:(i:bO)→gh i→List aD
 | .str,x=>[⟨.str,x⟩]
 | .i64,x=>[⟨.int .i64,x⟩]
 | .bool,x=>[⟨.bool,x⟩]
 | .u8,x=>[⟨.int .u8,x⟩]
 | .bI,x=>x.cB
 | .h5,x=>x.cB
 | .mS,x=>x.cB
 | .dI,x=>x.cB
 | .jJ,x=>x.cB
 | .aK,x=>x.cB
 | .k2,x=>x.cB
 | .Attr,x=>x.cB
 | .Command,x=>x.cB
 | .iN,x=>x.cB
 | .iP,x=>x.cB
 | .Home,x=>x.cB
 | .Change,x=>x.cB
 | .mT,x=>x.cB
 | .js,x=>x.cB
 | .iO,x=>x.cB
 | .jP,x=>x.cB
 | .Config,x=>x.cB
 | .k3,x=>x.cB
 | .k1,x=>x.cB
 | .mU,x=>x.cB
 | .k0,x=>x.cB
 | .mV,x=>x.cB
 | .nJ,x=>x.cB
 | .nI,x=>x.cB
 | .Case,x=>x.cB
 | .Rd,x=>x.cB
 | .ch,x=>x.cB
def Zi:(r:aZ)→r.den→List bh
 | .st c,x=>(l3 c x).map fun d=>lK d.r d.v
 |r,x=>[lK r x]
def fQ:(r:aZ)→r.den→bh
 | .mp k v,l=>.mp v.agg (l.map fun p=>Zh k p.1) (l.map fun p=>Zi v p.2)
 |r,x=>lK r x
def aD.au(d:aD):bh:=fQ d.r d.v
def fo:bO→List aZ
 | .str=>[.str]
 | .i64=>[.int .i64]
 | .bool=>[.bool]
 | .u8=>[.int .u8]
 | .bI=>[.int .i64,.int .i64,.str]
 | .h5=>[.int .i64,.str,.str]
 | .mS=>[.int .i64,.str,.str]
 | .dI=>[.int .i64,.int .i64,.int .i64,.str,.str,.str,.int .i64,.int .i64,.str,.str]
 | .jJ=>[.str,.int .i64,.int .i64,.int .i64,.str,.str,.str,.int .i64,.int .i64,.str,.str]
 | .aK=>[.int .i64,.int .i64,.int .i64,.int .i64,.str,.str,.int .i64,.int .i64,.str,.int .i64,.str,.str,.str,.int .i64,.int .i64,.int .i64,.str,.str,.str,.int .i64,.int .i64,.str,.str]
 | .k2=>[.int .i64,.str,.int .i64]
 | .Attr=>[.str,.int .i64,.int .i64,.int .i64,.li .str,.bool,.bool]
 | .Command=>[.str,.str,.int .i64,.int .i64,.int .i64,.li .str,.bool,.bool,.li .k2]
 | .iN=>[.str,.li .Attr,.li .Command,.li .str]
 | .iP=>[.int .i64,.int .u64,.int .i64,.bool,.int .i64,.str,.li .str]
 | .Home=>[.li .iN,.li .iP]
 | .Change=>[.int .i64,.int .i64]
 | .mT=>[.int .i64,.li .Change]
 | .js=>[.int .i64,.int .i64,.int .i64,.str,.int .i64,.int .i64,.str,.int .i64,.str,.str,.li .js]
 | .iO=>[.int .i64,.str,.str,.int .i64,.int .i64,.str,.int .i64]
 | .jP=>[.str,.int .i64,.int .i64,.int .i64,.int .i64,.str,.int .i64,.int .i64,.str,.int .i64,.str,.str,.li .js,.bool,.li .iO,.li .iO]
 | .Config=>[.li .iN,.li .iP,.li .str,.li .jP,.int .i64,.li .Change,.int .u64]
 | .k3=>[.int .i64,.int .i64]
 | .k1=>[.str,.int .i64,.li .k3,.li .str,.bool]
 | .mU=>[.int .i64,.int .u64]
 | .k0=>[.str,.int .i64,.int .u64]
 | .mV=>[.int .i64,.str,.int .i64]
 | .nJ=>[.int .i64,.str,.str,.int .i64,.int .i64,.str,.int .i64,.str,.int .i64,.int .i64]
 | .nI=>[.str,.int .i64,.int .i64,.int .i64]
 | .Case=>[.li .iN,.li .iP,.li .str,.li .jP,.int .i64,.li .Change,.int .u64,.li .k1,.li .k0,.li .i64,.str,.int .i64,.int .i64,.int .i64,.str,.str,.str,.int .i64,.int .i64,.str,.str,.int .i64,.int .i64]
 | .Rd=>[.str,.int .i64,.bool]
 | .ch=>[.str,.int .i64,.int .i64,.bool]
def oI:(i:bO)→List aD→gh i
 | .str,l=>(l.getD 0 aD.d).as (.str)
 | .i64,l=>(l.getD 0 aD.d).as (.int .i64)
 | .bool,l=>(l.getD 0 aD.d).as (.bool)
 | .u8,l=>(l.getD 0 aD.d).as (.int .u8)
 | .bI,l=>⟨(l.getD 0 aD.d).as (.int .i64),(l.getD 1 aD.d).as (.int .i64),(l.getD 2 aD.d).as (.str)⟩
 | .h5,l=>⟨(l.getD 0 aD.d).as (.int .i64),(l.getD 1 aD.d).as (.str),(l.getD 2 aD.d).as (.str)⟩
 | .mS,l=>⟨(l.getD 0 aD.d).as (.int .i64),(l.getD 1 aD.d).as (.str),(l.getD 2 aD.d).as (.str)⟩
 | .dI,l=>⟨(l.getD 0 aD.d).as (.int .i64),(l.getD 1 aD.d).as (.int .i64),⟨(l.getD 2 aD.d).as (.int .i64),(l.getD 3 aD.d).as (.str),(l.getD 4 aD.d).as (.str)⟩,(l.getD 5 aD.d).as (.str),⟨(l.getD 6 aD.d).as (.int .i64),(l.getD 7 aD.d).as (.int .i64),(l.getD 8 aD.d).as (.str)⟩,(l.getD 9 aD.d).as (.str)⟩
 | .jJ,l=>⟨(l.getD 0 aD.d).as (.str),⟨(l.getD 1 aD.d).as (.int .i64),(l.getD 2 aD.d).as (.int .i64),⟨(l.getD 3 aD.d).as (.int .i64),(l.getD 4 aD.d).as (.str),(l.getD 5 aD.d).as (.str)⟩,(l.getD 6 aD.d).as (.str),⟨(l.getD 7 aD.d).as (.int .i64),(l.getD 8 aD.d).as (.int .i64),(l.getD 9 aD.d).as (.str)⟩,(l.getD 10 aD.d).as (.str)⟩⟩
 | .aK,l=>⟨(l.getD 0 aD.d).as (.int .i64),(l.getD 1 aD.d).as (.int .i64),(l.getD 2 aD.d).as (.int .i64),⟨(l.getD 3 aD.d).as (.int .i64),(l.getD 4 aD.d).as (.str),(l.getD 5 aD.d).as (.str)⟩,⟨(l.getD 6 aD.d).as (.int .i64),(l.getD 7 aD.d).as (.int .i64),(l.getD 8 aD.d).as (.str)⟩,⟨(l.getD 9 aD.d).as (.int .i64),(l.getD 10 aD.d).as (.str),(l.getD 11 aD.d).as (.str)⟩,⟨(l.getD 12 aD.d).as (.str),⟨(l.getD 13 aD.d).as (.int .i64),(l.getD 14 aD.d).as (.int .i64),⟨(l.getD 15 aD.d).as (.int .i64),(l.getD 16 aD.d).as (.str),(l.getD 17 aD.d).as (.str)⟩,(l.getD 18 aD.d).as (.str),⟨(l.getD 19 aD.d).as (.int .i64),(l.getD 20 aD.d).as (.int .i64),(l.getD 21 aD.d).as (.str)⟩,(l.getD 22 aD.d).as (.str)⟩⟩⟩
 | .k2,l=>⟨(l.getD 0 aD.d).as (.int .i64),(l.getD 1 aD.d).as (.str),(l.getD 2 aD.d).as (.int .i64)⟩
 | .Attr,l=>⟨(l.getD 0 aD.d).as (.str),(l.getD 1 aD.d).as (.int .i64),(l.getD 2 aD.d).as (.int .i64),(l.getD 3 aD.d).as (.int .i64),(l.getD 4 aD.d).as (.li .str),(l.getD 5 aD.d).as (.bool),(l.getD 6 aD.d).as (.bool)⟩
 | .Command,l=>⟨(l.getD 0 aD.d).as (.str),⟨(l.getD 1 aD.d).as (.str),(l.getD 2 aD.d).as (.int .i64),(l.getD 3 aD.d).as (.int .i64),(l.getD 4 aD.d).as (.int .i64),(l.getD 5 aD.d).as (.li .str),(l.getD 6 aD.d).as (.bool),(l.getD 7 aD.d).as (.bool)⟩,(l.getD 8 aD.d).as (.li .k2)⟩
 | .iN,l=>⟨(l.getD 0 aD.d).as (.str),(l.getD 1 aD.d).as (.li .Attr),(l.getD 2 aD.d).as (.li .Command),(l.getD 3 aD.d).as (.li .str)⟩
 | .iP,l=>⟨(l.getD 0 aD.d).as (.int .i64),(l.getD 1 aD.d).as (.int .u64),(l.getD 2 aD.d).as (.int .i64),(l.getD 3 aD.d).as (.bool),(l.getD 4 aD.d).as (.int .i64),(l.getD 5 aD.d).as (.str),(l.getD 6 aD.d).as (.li .str)⟩
 | .Home,l=>⟨(l.getD 0 aD.d).as (.li .iN),(l.getD 1 aD.d).as (.li .iP)⟩
 | .Change,l=>⟨(l.getD 0 aD.d).as (.int .i64),(l.getD 1 aD.d).as (.int .i64)⟩
 | .mT,l=>⟨(l.getD 0 aD.d).as (.int .i64),(l.getD 1 aD.d).as (.li .Change)⟩
 | .js,l=>⟨(l.getD 0 aD.d).as (.int .i64),(l.getD 1 aD.d).as (.int .i64),(l.getD 2 aD.d).as (.int .i64),(l.getD 3 aD.d).as (.str),⟨(l.getD 4 aD.d).as (.int .i64),(l.getD 5 aD.d).as (.int .i64),(l.getD 6 aD.d).as (.str)⟩,⟨(l.getD 7 aD.d).as (.int .i64),(l.getD 8 aD.d).as (.str),(l.getD 9 aD.d).as (.str)⟩,(l.getD 10 aD.d).as (.li .js)⟩
 | .iO,l=>⟨⟨(l.getD 0 aD.d).as (.int .i64),(l.getD 1 aD.d).as (.str),(l.getD 2 aD.d).as (.str)⟩,⟨(l.getD 3 aD.d).as (.int .i64),(l.getD 4 aD.d).as (.int .i64),(l.getD 5 aD.d).as (.str)⟩,(l.getD 6 aD.d).as (.int .i64)⟩
 | .jP,l=>⟨(l.getD 0 aD.d).as (.str),(l.getD 1 aD.d).as (.int .i64),⟨(l.getD 2 aD.d).as (.int .i64),(l.getD 3 aD.d).as (.int .i64),(l.getD 4 aD.d).as (.int .i64),(l.getD 5 aD.d).as (.str),⟨(l.getD 6 aD.d).as (.int .i64),(l.getD 7 aD.d).as (.int .i64),(l.getD 8 aD.d).as (.str)⟩,⟨(l.getD 9 aD.d).as (.int .i64),(l.getD 10 aD.d).as (.str),(l.getD 11 aD.d).as (.str)⟩,(l.getD 12 aD.d).as (.li .js)⟩,(l.getD 13 aD.d).as (.bool),(l.getD 14 aD.d).as (.li .iO),(l.getD 15 aD.d).as (.li .iO)⟩
 | .Config,l=>⟨⟨(l.getD 0 aD.d).as (.li .iN),(l.getD 1 aD.d).as (.li .iP)⟩,(l.getD 2 aD.d).as (.li .str),(l.getD 3 aD.d).as (.li .jP),⟨(l.getD 4 aD.d).as (.int .i64),(l.getD 5 aD.d).as (.li .Change)⟩,(l.getD 6 aD.d).as (.int .u64)⟩
 | .k3,l=>⟨(l.getD 0 aD.d).as (.int .i64),(l.getD 1 aD.d).as (.int .i64)⟩
 | .k1,l=>⟨(l.getD 0 aD.d).as (.str),(l.getD 1 aD.d).as (.int .i64),(l.getD 2 aD.d).as (.li .k3),(l.getD 3 aD.d).as (.li .str),(l.getD 4 aD.d).as (.bool)⟩
 | .mU,l=>⟨(l.getD 0 aD.d).as (.int .i64),(l.getD 1 aD.d).as (.int .u64)⟩
 | .k0,l=>⟨(l.getD 0 aD.d).as (.str),⟨(l.getD 1 aD.d).as (.int .i64),(l.getD 2 aD.d).as (.int .u64)⟩⟩
 | .mV,l=>⟨(l.getD 0 aD.d).as (.int .i64),(l.getD 1 aD.d).as (.str),(l.getD 2 aD.d).as (.int .i64)⟩
 | .nJ,l=>⟨⟨(l.getD 0 aD.d).as (.int .i64),(l.getD 1 aD.d).as (.str),(l.getD 2 aD.d).as (.str)⟩,⟨(l.getD 3 aD.d).as (.int .i64),(l.getD 4 aD.d).as (.int .i64),(l.getD 5 aD.d).as (.str)⟩,⟨(l.getD 6 aD.d).as (.int .i64),(l.getD 7 aD.d).as (.str),(l.getD 8 aD.d).as (.int .i64)⟩,(l.getD 9 aD.d).as (.int .i64)⟩
 | .nI,l=>⟨(l.getD 0 aD.d).as (.str),(l.getD 1 aD.d).as (.int .i64),(l.getD 2 aD.d).as (.int .i64),(l.getD 3 aD.d).as (.int .i64)⟩
 | .Case,l=>⟨⟨⟨(l.getD 0 aD.d).as (.li .iN),(l.getD 1 aD.d).as (.li .iP)⟩,(l.getD 2 aD.d).as (.li .str),(l.getD 3 aD.d).as (.li .jP),⟨(l.getD 4 aD.d).as (.int .i64),(l.getD 5 aD.d).as (.li .Change)⟩,(l.getD 6 aD.d).as (.int .u64)⟩,(l.getD 7 aD.d).as (.li .k1),(l.getD 8 aD.d).as (.li .k0),(l.getD 9 aD.d).as (.li .i64),⟨(l.getD 10 aD.d).as (.str),⟨(l.getD 11 aD.d).as (.int .i64),(l.getD 12 aD.d).as (.int .i64),⟨(l.getD 13 aD.d).as (.int .i64),(l.getD 14 aD.d).as (.str),(l.getD 15 aD.d).as (.str)⟩,(l.getD 16 aD.d).as (.str),⟨(l.getD 17 aD.d).as (.int .i64),(l.getD 18 aD.d).as (.int .i64),(l.getD 19 aD.d).as (.str)⟩,(l.getD 20 aD.d).as (.str)⟩⟩,(l.getD 21 aD.d).as (.int .i64),(l.getD 22 aD.d).as (.int .i64)⟩
 | .Rd,l=>⟨(l.getD 0 aD.d).as (.str),(l.getD 1 aD.d).as (.int .i64),(l.getD 2 aD.d).as (.bool)⟩
 | .ch,l=>⟨(l.getD 0 aD.d).as (.str),(l.getD 1 aD.d).as (.int .i64),(l.getD 2 aD.d).as (.int .i64),(l.getD 3 aD.d).as (.bool)⟩
def cZ(i:bO)(x:gh i):List bh:=(l3 i x).map aD.au
def c8:bO→Nat
 | .str=>1
 | .i64=>1
 | .bool=>1
 | .u8=>1
 | .bI=>3
 | .h5=>3
 | .mS=>3
 | .dI=>10
 | .jJ=>11
 | .aK=>23
 | .k2=>3
 | .Attr=>7
 | .Command=>9
 | .iN=>4
 | .iP=>7
 | .Home=>2
 | .Change=>2
 | .mT=>2
 | .js=>11
 | .iO=>7
 | .jP=>16
 | .Config=>7
 | .k3=>2
 | .k1=>5
 | .mU=>2
 | .k0=>3
 | .mV=>3
 | .nJ=>10
 | .nI=>4
 | .Case=>23
 | .Rd=>3
 | .ch=>4
theorem PC(i:bO)(x:gh i):(l3 i x).map aD.r=fo i:=by cases i<;>rfl
theorem Ci(i:bO)(x:gh i):(cZ i x).length=c8 i:=by cases i<;>rfl
theorem yZ(d:aD):(⟨d.r,d.as d.r⟩:aD)=d:=by
 unfold aD.as
 split
 ·rfl
 ·rename_i h _;exact absurd rfl h
theorem Cj{d:aD}{r:aZ}(h:d.r=r):(⟨r,d.as r⟩:aD)=d:=by subst h;exact yZ d
theorem mi{α β:Type}{f:α→β}{l:List α}(h:l.map f=[]):l=[]:=by cases l<;>simp_all
theorem lL{α β:Type}{f:α→β}{l:List α}{b:β}{cz:List β}(h:l.map f=b::cz): ∃a eW,l=a::eW∧f a=b∧eW.map f=cz:=by
 cases l with
 |nil=>cases h
 |cons a eW=>simp only[List.map_cons,List.cons.injEq]at h;exact⟨a,eW,rfl,h.1,h.2⟩
theorem Ia(i:bO)(l:List aD)(h:l.map aD.r=fo i):l3 i (oI i l)=l:=by
 cases i<;>simp only[fo]at h<;>(repeat (obtain⟨_,_,rfl,af,h⟩:=lL h;rw[←Cj af];clear af))<;>(cases mi h)<;>rfl
end Go.aM
