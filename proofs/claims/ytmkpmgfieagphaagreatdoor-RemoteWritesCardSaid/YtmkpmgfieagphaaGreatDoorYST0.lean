/- Test: the data as Lean structures, codes of types, typed values, immutable values. Conditions: none. -/
import Derived.WalkKit
import Derived.KernelRfl
namespace Go.eK
open Go
structure az where
 kind:Int
 n:Int
 s:ByteArray
structure cB where
 dev:Int
 cG:ByteArray
 attr:ByteArray
structure mH where
 dev:Int
 cG:ByteArray
 name:ByteArray
structure aT where
 kind:Int
 e5:Int
 key:cB
 name:ByteArray
 value:az
 text:ByteArray
structure iu where
 token:ByteArray
 request:aT
structure nu where
 kind:Int
 n:Int
 m:Int
 key:cB
 value:az
 event:mH
 asked:iu
structure bV where
 kind:Int
 attr:ByteArray
 n:Int
structure Attr where
 name:ByteArray
 kind:Int
 min:Int
 max:Int
 enum:List ByteArray
 e6:Bool
 safety:Bool
structure Command where
 name:ByteArray
 param:Attr
 c4:List bV
structure aA where
 name:ByteArray
 attrs:List Attr
 commands:List Command
 events:List ByteArray
structure bx where
 id:Int
 gW:Int
 og:Int
 oh:Bool
 kG:Int
 room:ByteArray
 bB:List ByteArray
structure Home where
 bB:List aA
 bs:List bx
structure Change where
 at_:Int
 offset:Int
structure mI where
 offset:Int
 changes:List Change
structure jH where
 kind:Int
 n:Int
 m:Int
 name:ByteArray
 value:az
 key:cB
 kids:List jH
structure ck where
 key:cB
 value:az
 version:Int
structure jX where
 name:ByteArray
 zdY:Int
 when:jH
 zdZ:Bool
 force:List ck
 zd0:List ck
structure Config where
 home:Home
 zd1:List ByteArray
 zd2:List jX
 zd3:mI
 key:Int
structure eZ where
 from_:Int
 v7:Int
structure cC where
 name:ByteArray
 role:Int
 mD:List eZ
 fZ:List ByteArray
 home:Bool
structure fp where
 top:Int
 bits:Int
structure cS where
 fc:ByteArray
 tL:fp
structure dF where
 kind:Int
 name:ByteArray
 priority:Int
structure cm where
 key:cB
 value:az
 mG:dF
 order:Int
structure eO where
 fc:ByteArray
 id:Int
 ow:Int
 ox:Int
structure Case where
 c:Config
 members:List cC
 HK:List cS
 HL:List Int
 a:iu
 now:Int
 oo:Int
structure Rd where
 rest:ByteArray
 err:Int
 made:Bool
structure nv where
 s:ByteArray
 at_:Int
 bad:Int
 made:Bool
end Go.eK
namespace Go.aO
open Go Go.eK
inductive bJ where
 |str
 |i64
 |bool
 |u8
 |az
 |cB
 |mH
 |aT
 |iu
 |nu
 |bV
 |Attr
 |Command
 |aA
 |bx
 |Home
 |Change
 |mI
 |jH
 |ck
 |jX
 |Config
 |eZ
 |cC
 |fp
 |cS
 |dF
 |cm
 |eO
 |Case
 |Rd
 |nv
 deriving DecidableEq
def zd4:List bJ:=[.str,.i64,.bool,.u8,.az,.cB,.mH,.aT,.iu,.nu,.bV,.Attr,.Command,.aA,.bx,.Home,.Change,.mI,.jH,.ck,.jX,.Config,.eZ,.cC,.fp,.cS,.dF,.cm,.eO,.Case,.Rd,.nv]
@[reducible] def fQ:bJ→Type
 | .str=>ByteArray
 | .i64=>Int
 | .bool=>Bool
 | .u8=>Int
 | .az=>az
 | .cB=>cB
 | .mH=>mH
 | .aT=>aT
 | .iu=>iu
 | .nu=>nu
 | .bV=>bV
 | .Attr=>Attr
 | .Command=>Command
 | .aA=>aA
 | .bx=>bx
 | .Home=>Home
 | .Change=>Change
 | .mI=>mI
 | .jH=>jH
 | .ck=>ck
 | .jX=>jX
 | .Config=>Config
 | .eZ=>eZ
 | .cC=>cC
 | .fp=>fp
 | .cS=>cS
 | .dF=>dF
 | .cm=>cm
 | .eO=>eO
 | .Case=>Case
 | .Rd=>Rd
 | .nv=>nv
def av:(i:bJ)→fQ i
 | .str=>⟨#[]⟩
 | .i64=>0
 | .bool=>false
 | .u8=>0
 | .az=>⟨0,0,⟨#[]⟩⟩
 | .cB=>⟨0,⟨#[]⟩,⟨#[]⟩⟩
 | .mH=>⟨0,⟨#[]⟩,⟨#[]⟩⟩
 | .aT=>⟨0,0,⟨0,⟨#[]⟩,⟨#[]⟩⟩,⟨#[]⟩,⟨0,0,⟨#[]⟩⟩,⟨#[]⟩⟩
 | .iu=>⟨⟨#[]⟩,⟨0,0,⟨0,⟨#[]⟩,⟨#[]⟩⟩,⟨#[]⟩,⟨0,0,⟨#[]⟩⟩,⟨#[]⟩⟩⟩
 | .nu=>⟨0,0,0,⟨0,⟨#[]⟩,⟨#[]⟩⟩,⟨0,0,⟨#[]⟩⟩,⟨0,⟨#[]⟩,⟨#[]⟩⟩,⟨⟨#[]⟩,⟨0,0,⟨0,⟨#[]⟩,⟨#[]⟩⟩,⟨#[]⟩,⟨0,0,⟨#[]⟩⟩,⟨#[]⟩⟩⟩⟩
 | .bV=>⟨0,⟨#[]⟩,0⟩
 | .Attr=>⟨⟨#[]⟩,0,0,0,[],false,false⟩
 | .Command=>⟨⟨#[]⟩,⟨⟨#[]⟩,0,0,0,[],false,false⟩,[]⟩
 | .aA=>⟨⟨#[]⟩,[],[],[]⟩
 | .bx=>⟨0,0,0,false,0,⟨#[]⟩,[]⟩
 | .Home=>⟨[],[]⟩
 | .Change=>⟨0,0⟩
 | .mI=>⟨0,[]⟩
 | .jH=>⟨0,0,0,⟨#[]⟩,⟨0,0,⟨#[]⟩⟩,⟨0,⟨#[]⟩,⟨#[]⟩⟩,[]⟩
 | .ck=>⟨⟨0,⟨#[]⟩,⟨#[]⟩⟩,⟨0,0,⟨#[]⟩⟩,0⟩
 | .jX=>⟨⟨#[]⟩,0,⟨0,0,0,⟨#[]⟩,⟨0,0,⟨#[]⟩⟩,⟨0,⟨#[]⟩,⟨#[]⟩⟩,[]⟩,false,[],[]⟩
 | .Config=>⟨⟨[],[]⟩,[],[],⟨0,[]⟩,0⟩
 | .eZ=>⟨0,0⟩
 | .cC=>⟨⟨#[]⟩,0,[],[],false⟩
 | .fp=>⟨0,0⟩
 | .cS=>⟨⟨#[]⟩,⟨0,0⟩⟩
 | .dF=>⟨0,⟨#[]⟩,0⟩
 | .cm=>⟨⟨0,⟨#[]⟩,⟨#[]⟩⟩,⟨0,0,⟨#[]⟩⟩,⟨0,⟨#[]⟩,0⟩,0⟩
 | .eO=>⟨⟨#[]⟩,0,0,0⟩
 | .Case=>⟨⟨⟨[],[]⟩,[],[],⟨0,[]⟩,0⟩,[],[],[],⟨⟨#[]⟩,⟨0,0,⟨0,⟨#[]⟩,⟨#[]⟩⟩,⟨#[]⟩,⟨0,0,⟨#[]⟩⟩,⟨#[]⟩⟩⟩,0,0⟩
 | .Rd=>⟨⟨#[]⟩,0,false⟩
 | .nv=>⟨⟨#[]⟩,0,0,false⟩
inductive a6 where
 |int (k:IntKind)
 |bool
 |str
 |li (c:bJ)
 |st (c:bJ)
 |zN (x y:a6)
 |un
 |mp (k v:a6)
 deriving DecidableEq
@[reducible] def a6.den:a6→Type
 | .int _=>Int
 | .bool=>Bool
 | .str=>ByteArray
 | .li c=>List (fQ c)
 | .st c=>fQ c
 | .zN x y=>x.den × y.den
 | .un=>Unit
 | .mp k v=>List (k.den × v.den)
def a6.fz:(r:a6)→r.den
 | .int _=>(0:Int)
 | .bool=>false
 | .str=>(⟨#[]⟩:ByteArray)
 | .li c=>([]:List (fQ c))
 | .st c=>av c
 | .zN x y=>(x.fz,y.fz)
 | .un=>()
 | .mp k v=>([]:List (k.den × v.den))
structure aI where
 r:a6
 v:r.den
def aI.d:aI:=⟨.un,()⟩
def aI.aJ(r:a6)(d:aI):r.den:=
 match decEq d.r r with
 | .isTrue h=>h ▸ d.v
 | .isFalse _=>r.fz
inductive bb where
 |v (x:Value)
 |ptr (cs:List bb)
 |aR (n:Nat) (es:List (List bb))
 |mp (agg:Bool) (ks:List Value) (vs:List (List bb))
 |li (i:bJ) (l:List (fQ i))
 |er (t:TypeId) (agg:Bool) (cs:List bb)
def j5:(r:a6)→r.den→bb
 | .int k,n=>.v (.int k n)
 | .bool,b=>.v (.bool b)
 | .str,x=>.v (.string x)
 | .li c,l=>.li c l
 |_,_=>.v undef
def kV:(r:a6)→r.den→Value
 | .int k,n=>.int k n
 | .bool,b=>.bool b
 | .str,x=>.string x
 |_,_=>undef
def a6.agg:a6→Bool
 | .st _=>true
 |_=>false
end Go.aO
namespace Go.eK
open Go Go.aO
def az.c3(x:az):List aI:=[⟨.int .i64,x.kind⟩,⟨.int .i64,x.n⟩,⟨.str,x.s⟩]
def cB.c3(x:cB):List aI:=[⟨.int .i64,x.dev⟩,⟨.str,x.cG⟩,⟨.str,x.attr⟩]
def mH.c3(x:mH):List aI:=[⟨.int .i64,x.dev⟩,⟨.str,x.cG⟩,⟨.str,x.name⟩]
def aT.c3(x:aT):List aI:=⟨.int .i64,x.kind⟩::⟨.int .i64,x.e5⟩::(x.key.c3++⟨.str,x.name⟩::(x.value.c3++[⟨.str,x.text⟩]))
def iu.c3(x:iu):List aI:=⟨.str,x.token⟩::x.request.c3
def nu.c3(x:nu):List aI:=⟨.int .i64,x.kind⟩::⟨.int .i64,x.n⟩::⟨.int .i64,x.m⟩::(x.key.c3++(x.value.c3++(x.event.c3++x.asked.c3)))
def bV.c3(x:bV):List aI:=[⟨.int .i64,x.kind⟩,⟨.str,x.attr⟩,⟨.int .i64,x.n⟩]
def Attr.c3(x:Attr):List aI:=[⟨.str,x.name⟩,⟨.int .i64,x.kind⟩,⟨.int .i64,x.min⟩,⟨.int .i64,x.max⟩,⟨.li .str,x.enum⟩,⟨.bool,x.e6⟩,⟨.bool,x.safety⟩]
def Command.c3(x:Command):List aI:=⟨.str,x.name⟩::(x.param.c3++[⟨.li .bV,x.c4⟩])
def aA.c3(x:aA):List aI:=[⟨.str,x.name⟩,⟨.li .Attr,x.attrs⟩,⟨.li .Command,x.commands⟩,⟨.li .str,x.events⟩]
def bx.c3(x:bx):List aI:=[⟨.int .i64,x.id⟩,⟨.int .u64,x.gW⟩,⟨.int .i64,x.og⟩,⟨.bool,x.oh⟩,⟨.int .i64,x.kG⟩,⟨.str,x.room⟩,⟨.li .str,x.bB⟩]
def Home.c3(x:Home):List aI:=[⟨.li .aA,x.bB⟩,⟨.li .bx,x.bs⟩]
def Change.c3(x:Change):List aI:=[⟨.int .i64,x.at_⟩,⟨.int .i64,x.offset⟩]
def mI.c3(x:mI):List aI:=[⟨.int .i64,x.offset⟩,⟨.li .Change,x.changes⟩]
def jH.c3(x:jH):List aI:=⟨.int .i64,x.kind⟩::⟨.int .i64,x.n⟩::⟨.int .i64,x.m⟩::⟨.str,x.name⟩::(x.value.c3++(x.key.c3++[⟨.li .jH,x.kids⟩]))
def ck.c3(x:ck):List aI:=(x.key.c3++(x.value.c3++[⟨.int .i64,x.version⟩]))
def jX.c3(x:jX):List aI:=⟨.str,x.name⟩::⟨.int .i64,x.zdY⟩::(x.when.c3++[⟨.bool,x.zdZ⟩,⟨.li .ck,x.force⟩,⟨.li .ck,x.zd0⟩])
def Config.c3(x:Config):List aI:=(x.home.c3++⟨.li .str,x.zd1⟩::⟨.li .jX,x.zd2⟩::(x.zd3.c3++[⟨.int .u64,x.key⟩]))
def eZ.c3(x:eZ):List aI:=[⟨.int .i64,x.from_⟩,⟨.int .i64,x.v7⟩]
def cC.c3(x:cC):List aI:=[⟨.str,x.name⟩,⟨.int .i64,x.role⟩,⟨.li .eZ,x.mD⟩,⟨.li .str,x.fZ⟩,⟨.bool,x.home⟩]
def fp.c3(x:fp):List aI:=[⟨.int .i64,x.top⟩,⟨.int .u64,x.bits⟩]
def cS.c3(x:cS):List aI:=⟨.str,x.fc⟩::x.tL.c3
def dF.c3(x:dF):List aI:=[⟨.int .i64,x.kind⟩,⟨.str,x.name⟩,⟨.int .i64,x.priority⟩]
def cm.c3(x:cm):List aI:=(x.key.c3++(x.value.c3++(x.mG.c3++[⟨.int .i64,x.order⟩])))
def eO.c3(x:eO):List aI:=[⟨.str,x.fc⟩,⟨.int .i64,x.id⟩,⟨.int .i64,x.ow⟩,⟨.int .i64,x.ox⟩]
def Case.c3(x:Case):List aI:=(x.c.c3++⟨.li .cC,x.members⟩::⟨.li .cS,x.HK⟩::⟨.li .i64,x.HL⟩::(x.a.c3++[⟨.int .i64,x.now⟩,⟨.int .i64,x.oo⟩]))
def Rd.c3(x:Rd):List aI:=[⟨.str,x.rest⟩,⟨.int .i64,x.err⟩,⟨.bool,x.made⟩]
def nv.c3(x:nv):List aI:=[⟨.str,x.s⟩,⟨.int .i64,x.at_⟩,⟨.int .i64,x.bad⟩,⟨.bool,x.made⟩]
end Go.eK
namespace Go.aO
open Go Go.eK
def lx:(i:bJ)→fQ i→List aI
 | .str,x=>[⟨.str,x⟩]
 | .i64,x=>[⟨.int .i64,x⟩]
 | .bool,x=>[⟨.bool,x⟩]
 | .u8,x=>[⟨.int .u8,x⟩]
 | .az,x=>x.c3
 | .cB,x=>x.c3
 | .mH,x=>x.c3
 | .aT,x=>x.c3
 | .iu,x=>x.c3
 | .nu,x=>x.c3
 | .bV,x=>x.c3
 | .Attr,x=>x.c3
 | .Command,x=>x.c3
 | .aA,x=>x.c3
 | .bx,x=>x.c3
 | .Home,x=>x.c3
 | .Change,x=>x.c3
 | .mI,x=>x.c3
 | .jH,x=>x.c3
 | .ck,x=>x.c3
 | .jX,x=>x.c3
 | .Config,x=>x.c3
 | .eZ,x=>x.c3
 | .cC,x=>x.c3
 | .fp,x=>x.c3
 | .cS,x=>x.c3
 | .dF,x=>x.c3
 | .cm,x=>x.c3
 | .eO,x=>x.c3
 | .Case,x=>x.c3
 | .Rd,x=>x.c3
 | .nv,x=>x.c3
def iC:(r:a6)→r.den→List bb
 | .st c,x=>(lx c x).map fun d=>j5 d.r d.v
 |r,x=>[j5 r x]
def fJ:(r:a6)→r.den→bb
 | .mp k v,l=>.mp v.agg (l.map fun p=>kV k p.1) (l.map fun p=>iC v p.2)
 |r,x=>j5 r x
def aI.aw(d:aI):bb:=fJ d.r d.v
def eR:bJ→List a6
 | .str=>[.str]
 | .i64=>[.int .i64]
 | .bool=>[.bool]
 | .u8=>[.int .u8]
 | .az=>[.int .i64,.int .i64,.str]
 | .cB=>[.int .i64,.str,.str]
 | .mH=>[.int .i64,.str,.str]
 | .aT=>[.int .i64,.int .i64,.int .i64,.str,.str,.str,.int .i64,.int .i64,.str,.str]
 | .iu=>[.str,.int .i64,.int .i64,.int .i64,.str,.str,.str,.int .i64,.int .i64,.str,.str]
 | .nu=>[.int .i64,.int .i64,.int .i64,.int .i64,.str,.str,.int .i64,.int .i64,.str,.int .i64,.str,.str,.str,.int .i64,.int .i64,.int .i64,.str,.str,.str,.int .i64,.int .i64,.str,.str]
 | .bV=>[.int .i64,.str,.int .i64]
 | .Attr=>[.str,.int .i64,.int .i64,.int .i64,.li .str,.bool,.bool]
 | .Command=>[.str,.str,.int .i64,.int .i64,.int .i64,.li .str,.bool,.bool,.li .bV]
 | .aA=>[.str,.li .Attr,.li .Command,.li .str]
 | .bx=>[.int .i64,.int .u64,.int .i64,.bool,.int .i64,.str,.li .str]
 | .Home=>[.li .aA,.li .bx]
 | .Change=>[.int .i64,.int .i64]
 | .mI=>[.int .i64,.li .Change]
 | .jH=>[.int .i64,.int .i64,.int .i64,.str,.int .i64,.int .i64,.str,.int .i64,.str,.str,.li .jH]
 | .ck=>[.int .i64,.str,.str,.int .i64,.int .i64,.str,.int .i64]
 | .jX=>[.str,.int .i64,.int .i64,.int .i64,.int .i64,.str,.int .i64,.int .i64,.str,.int .i64,.str,.str,.li .jH,.bool,.li .ck,.li .ck]
 | .Config=>[.li .aA,.li .bx,.li .str,.li .jX,.int .i64,.li .Change,.int .u64]
 | .eZ=>[.int .i64,.int .i64]
 | .cC=>[.str,.int .i64,.li .eZ,.li .str,.bool]
 | .fp=>[.int .i64,.int .u64]
 | .cS=>[.str,.int .i64,.int .u64]
 | .dF=>[.int .i64,.str,.int .i64]
 | .cm=>[.int .i64,.str,.str,.int .i64,.int .i64,.str,.int .i64,.str,.int .i64,.int .i64]
 | .eO=>[.str,.int .i64,.int .i64,.int .i64]
 | .Case=>[.li .aA,.li .bx,.li .str,.li .jX,.int .i64,.li .Change,.int .u64,.li .cC,.li .cS,.li .i64,.str,.int .i64,.int .i64,.int .i64,.str,.str,.str,.int .i64,.int .i64,.str,.str,.int .i64,.int .i64]
 | .Rd=>[.str,.int .i64,.bool]
 | .nv=>[.str,.int .i64,.int .i64,.bool]
def oR:(i:bJ)→List aI→fQ i
 | .str,l=>(l.getD 0 aI.d).aJ (.str)
 | .i64,l=>(l.getD 0 aI.d).aJ (.int .i64)
 | .bool,l=>(l.getD 0 aI.d).aJ (.bool)
 | .u8,l=>(l.getD 0 aI.d).aJ (.int .u8)
 | .az,l=>⟨(l.getD 0 aI.d).aJ (.int .i64),(l.getD 1 aI.d).aJ (.int .i64),(l.getD 2 aI.d).aJ (.str)⟩
 | .cB,l=>⟨(l.getD 0 aI.d).aJ (.int .i64),(l.getD 1 aI.d).aJ (.str),(l.getD 2 aI.d).aJ (.str)⟩
 | .mH,l=>⟨(l.getD 0 aI.d).aJ (.int .i64),(l.getD 1 aI.d).aJ (.str),(l.getD 2 aI.d).aJ (.str)⟩
 | .aT,l=>⟨(l.getD 0 aI.d).aJ (.int .i64),(l.getD 1 aI.d).aJ (.int .i64),⟨(l.getD 2 aI.d).aJ (.int .i64),(l.getD 3 aI.d).aJ (.str),(l.getD 4 aI.d).aJ (.str)⟩,(l.getD 5 aI.d).aJ (.str),⟨(l.getD 6 aI.d).aJ (.int .i64),(l.getD 7 aI.d).aJ (.int .i64),(l.getD 8 aI.d).aJ (.str)⟩,(l.getD 9 aI.d).aJ (.str)⟩
 | .iu,l=>⟨(l.getD 0 aI.d).aJ (.str),⟨(l.getD 1 aI.d).aJ (.int .i64),(l.getD 2 aI.d).aJ (.int .i64),⟨(l.getD 3 aI.d).aJ (.int .i64),(l.getD 4 aI.d).aJ (.str),(l.getD 5 aI.d).aJ (.str)⟩,(l.getD 6 aI.d).aJ (.str),⟨(l.getD 7 aI.d).aJ (.int .i64),(l.getD 8 aI.d).aJ (.int .i64),(l.getD 9 aI.d).aJ (.str)⟩,(l.getD 10 aI.d).aJ (.str)⟩⟩
 | .nu,l=>⟨(l.getD 0 aI.d).aJ (.int .i64),(l.getD 1 aI.d).aJ (.int .i64),(l.getD 2 aI.d).aJ (.int .i64),⟨(l.getD 3 aI.d).aJ (.int .i64),(l.getD 4 aI.d).aJ (.str),(l.getD 5 aI.d).aJ (.str)⟩,⟨(l.getD 6 aI.d).aJ (.int .i64),(l.getD 7 aI.d).aJ (.int .i64),(l.getD 8 aI.d).aJ (.str)⟩,⟨(l.getD 9 aI.d).aJ (.int .i64),(l.getD 10 aI.d).aJ (.str),(l.getD 11 aI.d).aJ (.str)⟩,⟨(l.getD 12 aI.d).aJ (.str),⟨(l.getD 13 aI.d).aJ (.int .i64),(l.getD 14 aI.d).aJ (.int .i64),⟨(l.getD 15 aI.d).aJ (.int .i64),(l.getD 16 aI.d).aJ (.str),(l.getD 17 aI.d).aJ (.str)⟩,(l.getD 18 aI.d).aJ (.str),⟨(l.getD 19 aI.d).aJ (.int .i64),(l.getD 20 aI.d).aJ (.int .i64),(l.getD 21 aI.d).aJ (.str)⟩,(l.getD 22 aI.d).aJ (.str)⟩⟩⟩
 | .bV,l=>⟨(l.getD 0 aI.d).aJ (.int .i64),(l.getD 1 aI.d).aJ (.str),(l.getD 2 aI.d).aJ (.int .i64)⟩
 | .Attr,l=>⟨(l.getD 0 aI.d).aJ (.str),(l.getD 1 aI.d).aJ (.int .i64),(l.getD 2 aI.d).aJ (.int .i64),(l.getD 3 aI.d).aJ (.int .i64),(l.getD 4 aI.d).aJ (.li .str),(l.getD 5 aI.d).aJ (.bool),(l.getD 6 aI.d).aJ (.bool)⟩
 | .Command,l=>⟨(l.getD 0 aI.d).aJ (.str),⟨(l.getD 1 aI.d).aJ (.str),(l.getD 2 aI.d).aJ (.int .i64),(l.getD 3 aI.d).aJ (.int .i64),(l.getD 4 aI.d).aJ (.int .i64),(l.getD 5 aI.d).aJ (.li .str),(l.getD 6 aI.d).aJ (.bool),(l.getD 7 aI.d).aJ (.bool)⟩,(l.getD 8 aI.d).aJ (.li .bV)⟩
 | .aA,l=>⟨(l.getD 0 aI.d).aJ (.str),(l.getD 1 aI.d).aJ (.li .Attr),(l.getD 2 aI.d).aJ (.li .Command),(l.getD 3 aI.d).aJ (.li .str)⟩
 | .bx,l=>⟨(l.getD 0 aI.d).aJ (.int .i64),(l.getD 1 aI.d).aJ (.int .u64),(l.getD 2 aI.d).aJ (.int .i64),(l.getD 3 aI.d).aJ (.bool),(l.getD 4 aI.d).aJ (.int .i64),(l.getD 5 aI.d).aJ (.str),(l.getD 6 aI.d).aJ (.li .str)⟩
 | .Home,l=>⟨(l.getD 0 aI.d).aJ (.li .aA),(l.getD 1 aI.d).aJ (.li .bx)⟩
 | .Change,l=>⟨(l.getD 0 aI.d).aJ (.int .i64),(l.getD 1 aI.d).aJ (.int .i64)⟩
 | .mI,l=>⟨(l.getD 0 aI.d).aJ (.int .i64),(l.getD 1 aI.d).aJ (.li .Change)⟩
 | .jH,l=>⟨(l.getD 0 aI.d).aJ (.int .i64),(l.getD 1 aI.d).aJ (.int .i64),(l.getD 2 aI.d).aJ (.int .i64),(l.getD 3 aI.d).aJ (.str),⟨(l.getD 4 aI.d).aJ (.int .i64),(l.getD 5 aI.d).aJ (.int .i64),(l.getD 6 aI.d).aJ (.str)⟩,⟨(l.getD 7 aI.d).aJ (.int .i64),(l.getD 8 aI.d).aJ (.str),(l.getD 9 aI.d).aJ (.str)⟩,(l.getD 10 aI.d).aJ (.li .jH)⟩
 | .ck,l=>⟨⟨(l.getD 0 aI.d).aJ (.int .i64),(l.getD 1 aI.d).aJ (.str),(l.getD 2 aI.d).aJ (.str)⟩,⟨(l.getD 3 aI.d).aJ (.int .i64),(l.getD 4 aI.d).aJ (.int .i64),(l.getD 5 aI.d).aJ (.str)⟩,(l.getD 6 aI.d).aJ (.int .i64)⟩
 | .jX,l=>⟨(l.getD 0 aI.d).aJ (.str),(l.getD 1 aI.d).aJ (.int .i64),⟨(l.getD 2 aI.d).aJ (.int .i64),(l.getD 3 aI.d).aJ (.int .i64),(l.getD 4 aI.d).aJ (.int .i64),(l.getD 5 aI.d).aJ (.str),⟨(l.getD 6 aI.d).aJ (.int .i64),(l.getD 7 aI.d).aJ (.int .i64),(l.getD 8 aI.d).aJ (.str)⟩,⟨(l.getD 9 aI.d).aJ (.int .i64),(l.getD 10 aI.d).aJ (.str),(l.getD 11 aI.d).aJ (.str)⟩,(l.getD 12 aI.d).aJ (.li .jH)⟩,(l.getD 13 aI.d).aJ (.bool),(l.getD 14 aI.d).aJ (.li .ck),(l.getD 15 aI.d).aJ (.li .ck)⟩
 | .Config,l=>⟨⟨(l.getD 0 aI.d).aJ (.li .aA),(l.getD 1 aI.d).aJ (.li .bx)⟩,(l.getD 2 aI.d).aJ (.li .str),(l.getD 3 aI.d).aJ (.li .jX),⟨(l.getD 4 aI.d).aJ (.int .i64),(l.getD 5 aI.d).aJ (.li .Change)⟩,(l.getD 6 aI.d).aJ (.int .u64)⟩
 | .eZ,l=>⟨(l.getD 0 aI.d).aJ (.int .i64),(l.getD 1 aI.d).aJ (.int .i64)⟩
 | .cC,l=>⟨(l.getD 0 aI.d).aJ (.str),(l.getD 1 aI.d).aJ (.int .i64),(l.getD 2 aI.d).aJ (.li .eZ),(l.getD 3 aI.d).aJ (.li .str),(l.getD 4 aI.d).aJ (.bool)⟩
 | .fp,l=>⟨(l.getD 0 aI.d).aJ (.int .i64),(l.getD 1 aI.d).aJ (.int .u64)⟩
 | .cS,l=>⟨(l.getD 0 aI.d).aJ (.str),⟨(l.getD 1 aI.d).aJ (.int .i64),(l.getD 2 aI.d).aJ (.int .u64)⟩⟩
 | .dF,l=>⟨(l.getD 0 aI.d).aJ (.int .i64),(l.getD 1 aI.d).aJ (.str),(l.getD 2 aI.d).aJ (.int .i64)⟩
 | .cm,l=>⟨⟨(l.getD 0 aI.d).aJ (.int .i64),(l.getD 1 aI.d).aJ (.str),(l.getD 2 aI.d).aJ (.str)⟩,⟨(l.getD 3 aI.d).aJ (.int .i64),(l.getD 4 aI.d).aJ (.int .i64),(l.getD 5 aI.d).aJ (.str)⟩,⟨(l.getD 6 aI.d).aJ (.int .i64),(l.getD 7 aI.d).aJ (.str),(l.getD 8 aI.d).aJ (.int .i64)⟩,(l.getD 9 aI.d).aJ (.int .i64)⟩
 | .eO,l=>⟨(l.getD 0 aI.d).aJ (.str),(l.getD 1 aI.d).aJ (.int .i64),(l.getD 2 aI.d).aJ (.int .i64),(l.getD 3 aI.d).aJ (.int .i64)⟩
 | .Case,l=>⟨⟨⟨(l.getD 0 aI.d).aJ (.li .aA),(l.getD 1 aI.d).aJ (.li .bx)⟩,(l.getD 2 aI.d).aJ (.li .str),(l.getD 3 aI.d).aJ (.li .jX),⟨(l.getD 4 aI.d).aJ (.int .i64),(l.getD 5 aI.d).aJ (.li .Change)⟩,(l.getD 6 aI.d).aJ (.int .u64)⟩,(l.getD 7 aI.d).aJ (.li .cC),(l.getD 8 aI.d).aJ (.li .cS),(l.getD 9 aI.d).aJ (.li .i64),⟨(l.getD 10 aI.d).aJ (.str),⟨(l.getD 11 aI.d).aJ (.int .i64),(l.getD 12 aI.d).aJ (.int .i64),⟨(l.getD 13 aI.d).aJ (.int .i64),(l.getD 14 aI.d).aJ (.str),(l.getD 15 aI.d).aJ (.str)⟩,(l.getD 16 aI.d).aJ (.str),⟨(l.getD 17 aI.d).aJ (.int .i64),(l.getD 18 aI.d).aJ (.int .i64),(l.getD 19 aI.d).aJ (.str)⟩,(l.getD 20 aI.d).aJ (.str)⟩⟩,(l.getD 21 aI.d).aJ (.int .i64),(l.getD 22 aI.d).aJ (.int .i64)⟩
 | .Rd,l=>⟨(l.getD 0 aI.d).aJ (.str),(l.getD 1 aI.d).aJ (.int .i64),(l.getD 2 aI.d).aJ (.bool)⟩
 | .nv,l=>⟨(l.getD 0 aI.d).aJ (.str),(l.getD 1 aI.d).aJ (.int .i64),(l.getD 2 aI.d).aJ (.int .i64),(l.getD 3 aI.d).aJ (.bool)⟩
def cj(i:bJ)(x:fQ i):List bb:=(lx i x).map aI.aw
def b5:bJ→Nat
 | .str=>1
 | .i64=>1
 | .bool=>1
 | .u8=>1
 | .az=>3
 | .cB=>3
 | .mH=>3
 | .aT=>10
 | .iu=>11
 | .nu=>23
 | .bV=>3
 | .Attr=>7
 | .Command=>9
 | .aA=>4
 | .bx=>7
 | .Home=>2
 | .Change=>2
 | .mI=>2
 | .jH=>11
 | .ck=>7
 | .jX=>16
 | .Config=>7
 | .eZ=>2
 | .cC=>5
 | .fp=>2
 | .cS=>3
 | .dF=>3
 | .cm=>10
 | .eO=>4
 | .Case=>23
 | .Rd=>3
 | .nv=>4
theorem KT(i:bJ)(x:fQ i):(lx i x).map aI.r=eR i:=by cases i<;>rfl
theorem Dv(i:bJ)(x:fQ i):(cj i x).length=b5 i:=by cases i<;>rfl
theorem zO(d:aI):(⟨d.r,d.aJ d.r⟩:aI)=d:=by
 unfold aI.aJ
 split
 ·rfl
 ·rename_i h _;exact absurd rfl h
theorem Dw{d:aI}{r:a6}(h:d.r=r):(⟨r,d.aJ r⟩:aI)=d:=by subst h;exact zO d
theorem me{α β:Type}{f:α→β}{l:List α}(h:l.map f=[]):l=[]:=by cases l<;>simp_all
theorem ly{α β:Type}{f:α→β}{l:List α}{b:β}{cY:List β}(h:l.map f=b::cY): ∃a gz,l=a::gz∧f a=b∧gz.map f=cY:=by
 cases l with
 |nil=>cases h
 |cons a gz=>simp only[List.map_cons,List.cons.injEq]at h;exact⟨a,gz,rfl,h.1,h.2⟩
theorem Dx(i:bJ)(l:List aI)(h:l.map aI.r=eR i):lx i (oR i l)=l:=by
 cases i<;>simp only[eR]at h<;>(repeat (obtain⟨_,_,rfl,ag,h⟩:=ly h;rw[←Dw ag];clear ag))<;>(cases me h)<;>rfl
def zd5:List Nat:=[183,117]
end Go.aO
