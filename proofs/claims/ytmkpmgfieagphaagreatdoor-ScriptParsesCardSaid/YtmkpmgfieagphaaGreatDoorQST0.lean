/- Test: the data as Lean structures, codes of types, typed values, immutable values. Conditions: none. -/
import Derived.WalkKit
import Derived.KernelRfl
namespace Go.ei
open Go
structure bH where
 kind:Int
 n:Int
 s:ByteArray
structure h4 where
 dev:Int
 bm:ByteArray
 attr:ByteArray
structure mK where
 dev:Int
 bm:ByteArray
 name:ByteArray
structure dD where
 kind:Int
 cW:Int
 key:h4
 name:ByteArray
 value:bH
 text:ByteArray
structure jC where
 token:ByteArray
 request:dD
structure bf where
 kind:Int
 n:Int
 m:Int
 key:h4
 value:bH
 event:mK
 asked:jC
structure kZ where
 kind:Int
 attr:ByteArray
 n:Int
structure Attr where
 name:ByteArray
 kind:Int
 min:Int
 max:Int
 enum:List ByteArray
 X0:Bool
 safety:Bool
structure Command where
 name:ByteArray
 param:Attr
 X1:List kZ
structure iI where
 name:ByteArray
 attrs:List Attr
 commands:List Command
 events:List ByteArray
structure iK where
 id:Int
 X2:Int
 X3:Int
 X4:Bool
 X5:Int
 room:ByteArray
 HF:List ByteArray
structure Home where
 HF:List iI
 X6:List iK
structure Change where
 at_:Int
 offset:Int
structure mL where
 offset:Int
 changes:List Change
structure jl where
 kind:Int
 n:Int
 m:Int
 name:ByteArray
 value:bH
 key:h4
 kids:List jl
structure iJ where
 key:h4
 value:bH
 version:Int
structure jJ where
 name:ByteArray
 X7:Int
 when:jl
 X8:Bool
 force:List iJ
 X9:List iJ
structure Config where
 home:Home
 Ya:List ByteArray
 Yb:List jJ
 Yc:mL
 key:Int
structure k0 where
 from_:Int
 Yd:Int
structure kY where
 name:ByteArray
 role:Int
 Ye:List k0
 Yf:List ByteArray
 home:Bool
structure mM where
 top:Int
 bits:Int
structure kX where
 HG:ByteArray
 Yg:mM
structure mN where
 kind:Int
 name:ByteArray
 priority:Int
structure nA where
 key:h4
 value:bH
 Yh:mN
 order:Int
structure nz where
 HG:ByteArray
 id:Int
 Yi:Int
 Yj:Int
structure Case where
 c:Config
 members:List kY
 Yk:List kX
 Yl:List Int
 a:jC
 now:Int
 Ym:Int
structure Rd where
 rest:ByteArray
 err:Int
 made:Bool
structure cd where
 s:ByteArray
 at_:Int
 bad:Int
 made:Bool
end Go.ei
namespace Go.aL
open Go Go.ei
inductive bN where
 |str
 |i64
 |bool
 |u8
 |bH
 |h4
 |mK
 |dD
 |jC
 |bf
 |kZ
 |Attr
 |Command
 |iI
 |iK
 |Home
 |Change
 |mL
 |jl
 |iJ
 |jJ
 |Config
 |k0
 |kY
 |mM
 |kX
 |mN
 |nA
 |nz
 |Case
 |Rd
 |cd
 deriving DecidableEq
def Yn:List bN:=[.str,.i64,.bool,.u8,.bH,.h4,.mK,.dD,.jC,.bf,.kZ,.Attr,.Command,.iI,.iK,.Home,.Change,.mL,.jl,.iJ,.jJ,.Config,.k0,.kY,.mM,.kX,.mN,.nA,.nz,.Case,.Rd,.cd]
@[reducible] def fZ:bN→Type
 | .str=>ByteArray
 | .i64=>Int
 | .bool=>Bool
 | .u8=>Int
 | .bH=>bH
 | .h4=>h4
 | .mK=>mK
 | .dD=>dD
 | .jC=>jC
 | .bf=>bf
 | .kZ=>kZ
 | .Attr=>Attr
 | .Command=>Command
 | .iI=>iI
 | .iK=>iK
 | .Home=>Home
 | .Change=>Change
 | .mL=>mL
 | .jl=>jl
 | .iJ=>iJ
 | .jJ=>jJ
 | .Config=>Config
 | .k0=>k0
 | .kY=>kY
 | .mM=>mM
 | .kX=>kX
 | .mN=>mN
 | .nA=>nA
 | .nz=>nz
 | .Case=>Case
 | .Rd=>Rd
 | .cd=>cd
def fJ:(i:bN)→fZ i
 | .str=>⟨#[]⟩
 | .i64=>0
 | .bool=>false
 | .u8=>0
 | .bH=>⟨0,0,⟨#[]⟩⟩
 | .h4=>⟨0,⟨#[]⟩,⟨#[]⟩⟩
 | .mK=>⟨0,⟨#[]⟩,⟨#[]⟩⟩
 | .dD=>⟨0,0,⟨0,⟨#[]⟩,⟨#[]⟩⟩,⟨#[]⟩,⟨0,0,⟨#[]⟩⟩,⟨#[]⟩⟩
 | .jC=>⟨⟨#[]⟩,⟨0,0,⟨0,⟨#[]⟩,⟨#[]⟩⟩,⟨#[]⟩,⟨0,0,⟨#[]⟩⟩,⟨#[]⟩⟩⟩
 | .bf=>⟨0,0,0,⟨0,⟨#[]⟩,⟨#[]⟩⟩,⟨0,0,⟨#[]⟩⟩,⟨0,⟨#[]⟩,⟨#[]⟩⟩,⟨⟨#[]⟩,⟨0,0,⟨0,⟨#[]⟩,⟨#[]⟩⟩,⟨#[]⟩,⟨0,0,⟨#[]⟩⟩,⟨#[]⟩⟩⟩⟩
 | .kZ=>⟨0,⟨#[]⟩,0⟩
 | .Attr=>⟨⟨#[]⟩,0,0,0,[],false,false⟩
 | .Command=>⟨⟨#[]⟩,⟨⟨#[]⟩,0,0,0,[],false,false⟩,[]⟩
 | .iI=>⟨⟨#[]⟩,[],[],[]⟩
 | .iK=>⟨0,0,0,false,0,⟨#[]⟩,[]⟩
 | .Home=>⟨[],[]⟩
 | .Change=>⟨0,0⟩
 | .mL=>⟨0,[]⟩
 | .jl=>⟨0,0,0,⟨#[]⟩,⟨0,0,⟨#[]⟩⟩,⟨0,⟨#[]⟩,⟨#[]⟩⟩,[]⟩
 | .iJ=>⟨⟨0,⟨#[]⟩,⟨#[]⟩⟩,⟨0,0,⟨#[]⟩⟩,0⟩
 | .jJ=>⟨⟨#[]⟩,0,⟨0,0,0,⟨#[]⟩,⟨0,0,⟨#[]⟩⟩,⟨0,⟨#[]⟩,⟨#[]⟩⟩,[]⟩,false,[],[]⟩
 | .Config=>⟨⟨[],[]⟩,[],[],⟨0,[]⟩,0⟩
 | .k0=>⟨0,0⟩
 | .kY=>⟨⟨#[]⟩,0,[],[],false⟩
 | .mM=>⟨0,0⟩
 | .kX=>⟨⟨#[]⟩,⟨0,0⟩⟩
 | .mN=>⟨0,⟨#[]⟩,0⟩
 | .nA=>⟨⟨0,⟨#[]⟩,⟨#[]⟩⟩,⟨0,0,⟨#[]⟩⟩,⟨0,⟨#[]⟩,0⟩,0⟩
 | .nz=>⟨⟨#[]⟩,0,0,0⟩
 | .Case=>⟨⟨⟨[],[]⟩,[],[],⟨0,[]⟩,0⟩,[],[],[],⟨⟨#[]⟩,⟨0,0,⟨0,⟨#[]⟩,⟨#[]⟩⟩,⟨#[]⟩,⟨0,0,⟨#[]⟩⟩,⟨#[]⟩⟩⟩,0,0⟩
 | .Rd=>⟨⟨#[]⟩,0,false⟩
 | .cd=>⟨⟨#[]⟩,0,0,false⟩
inductive aU where
 |int (k:IntKind)
 |bool
 |str
 |li (c:bN)
 |st (c:bN)
 |HH (x y:aU)
 |un
 |mp (k v:aU)
 deriving DecidableEq
@[reducible] def aU.den:aU→Type
 | .int _=>Int
 | .bool=>Bool
 | .str=>ByteArray
 | .li c=>List (fZ c)
 | .st c=>fZ c
 | .HH x y=>x.den × y.den
 | .un=>Unit
 | .mp k v=>List (k.den × v.den)
def aU.gD:(r:aU)→r.den
 | .int _=>(0:Int)
 | .bool=>false
 | .str=>(⟨#[]⟩:ByteArray)
 | .li c=>([]:List (fZ c))
 | .st c=>fJ c
 | .HH x y=>(x.gD,y.gD)
 | .un=>()
 | .mp k v=>([]:List (k.den × v.den))
structure aB where
 r:aU
 v:r.den
def aB.d:aB:=⟨.un,()⟩
def aB.as(r:aU)(d:aB):r.den:=
 match decEq d.r r with
 | .isTrue h=>h ▸ d.v
 | .isFalse _=>r.gD
inductive bd where
 |v (x:Value)
 |ptr (cs:List bd)
 |aN (n:Nat) (es:List (List bd))
 |mp (agg:Bool) (ks:List Value) (vs:List (List bd))
 |li (i:bN) (l:List (fZ i))
def lH:(r:aU)→r.den→bd
 | .int k,n=>.v (.int k n)
 | .bool,b=>.v (.bool b)
 | .str,x=>.v (.string x)
 | .li c,l=>.li c l
 |_,_=>.v undef
def Yo:(r:aU)→r.den→Value
 | .int k,n=>.int k n
 | .bool,b=>.bool b
 | .str,x=>.string x
 |_,_=>undef
def aU.agg:aU→Bool
 | .st _=>true
 |_=>false
end Go.aL
namespace Go.ei
open Go Go.aL
def bH.cz(x:bH):List aB:=[⟨.int .i64,x.kind⟩,⟨.int .i64,x.n⟩,⟨.str,x.s⟩]
def h4.cz(x:h4):List aB:=[⟨.int .i64,x.dev⟩,⟨.str,x.bm⟩,⟨.str,x.attr⟩]
def mK.cz(x:mK):List aB:=[⟨.int .i64,x.dev⟩,⟨.str,x.bm⟩,⟨.str,x.name⟩]
def dD.cz(x:dD):List aB:=⟨.int .i64,x.kind⟩::⟨.int .i64,x.cW⟩::(x.key.cz++⟨.str,x.name⟩::(x.value.cz++[⟨.str,x.text⟩]))
def jC.cz(x:jC):List aB:=⟨.str,x.token⟩::x.request.cz
def bf.cz(x:bf):List aB:=⟨.int .i64,x.kind⟩::⟨.int .i64,x.n⟩::⟨.int .i64,x.m⟩::(x.key.cz++(x.value.cz++(x.event.cz++x.asked.cz)))
def kZ.cz(x:kZ):List aB:=[⟨.int .i64,x.kind⟩,⟨.str,x.attr⟩,⟨.int .i64,x.n⟩]
def Attr.cz(x:Attr):List aB:=[⟨.str,x.name⟩,⟨.int .i64,x.kind⟩,⟨.int .i64,x.min⟩,⟨.int .i64,x.max⟩,⟨.li .str,x.enum⟩,⟨.bool,x.X0⟩,⟨.bool,x.safety⟩]
def Command.cz(x:Command):List aB:=⟨.str,x.name⟩::(x.param.cz++[⟨.li .kZ,x.X1⟩])
def iI.cz(x:iI):List aB:=[⟨.str,x.name⟩,⟨.li .Attr,x.attrs⟩,⟨.li .Command,x.commands⟩,⟨.li .str,x.events⟩]
def iK.cz(x:iK):List aB:=[⟨.int .i64,x.id⟩,⟨.int .u64,x.X2⟩,⟨.int .i64,x.X3⟩,⟨.bool,x.X4⟩,⟨.int .i64,x.X5⟩,⟨.str,x.room⟩,⟨.li .str,x.HF⟩]
def Home.cz(x:Home):List aB:=[⟨.li .iI,x.HF⟩,⟨.li .iK,x.X6⟩]
def Change.cz(x:Change):List aB:=[⟨.int .i64,x.at_⟩,⟨.int .i64,x.offset⟩]
def mL.cz(x:mL):List aB:=[⟨.int .i64,x.offset⟩,⟨.li .Change,x.changes⟩]
def jl.cz(x:jl):List aB:=⟨.int .i64,x.kind⟩::⟨.int .i64,x.n⟩::⟨.int .i64,x.m⟩::⟨.str,x.name⟩::(x.value.cz++(x.key.cz++[⟨.li .jl,x.kids⟩]))
def iJ.cz(x:iJ):List aB:=(x.key.cz++(x.value.cz++[⟨.int .i64,x.version⟩]))
def jJ.cz(x:jJ):List aB:=⟨.str,x.name⟩::⟨.int .i64,x.X7⟩::(x.when.cz++[⟨.bool,x.X8⟩,⟨.li .iJ,x.force⟩,⟨.li .iJ,x.X9⟩])
def Config.cz(x:Config):List aB:=(x.home.cz++⟨.li .str,x.Ya⟩::⟨.li .jJ,x.Yb⟩::(x.Yc.cz++[⟨.int .u64,x.key⟩]))
def k0.cz(x:k0):List aB:=[⟨.int .i64,x.from_⟩,⟨.int .i64,x.Yd⟩]
def kY.cz(x:kY):List aB:=[⟨.str,x.name⟩,⟨.int .i64,x.role⟩,⟨.li .k0,x.Ye⟩,⟨.li .str,x.Yf⟩,⟨.bool,x.home⟩]
def mM.cz(x:mM):List aB:=[⟨.int .i64,x.top⟩,⟨.int .u64,x.bits⟩]
def kX.cz(x:kX):List aB:=⟨.str,x.HG⟩::x.Yg.cz
def mN.cz(x:mN):List aB:=[⟨.int .i64,x.kind⟩,⟨.str,x.name⟩,⟨.int .i64,x.priority⟩]
def nA.cz(x:nA):List aB:=(x.key.cz++(x.value.cz++(x.Yh.cz++[⟨.int .i64,x.order⟩])))
def nz.cz(x:nz):List aB:=[⟨.str,x.HG⟩,⟨.int .i64,x.id⟩,⟨.int .i64,x.Yi⟩,⟨.int .i64,x.Yj⟩]
def Case.cz(x:Case):List aB:=(x.c.cz++⟨.li .kY,x.members⟩::⟨.li .kX,x.Yk⟩::⟨.li .i64,x.Yl⟩::(x.a.cz++[⟨.int .i64,x.now⟩,⟨.int .i64,x.Ym⟩]))
def Rd.cz(x:Rd):List aB:=[⟨.str,x.rest⟩,⟨.int .i64,x.err⟩,⟨.bool,x.made⟩]
def cd.cz(x:cd):List aB:=[⟨.str,x.s⟩,⟨.int .i64,x.at_⟩,⟨.int .i64,x.bad⟩,⟨.bool,x.made⟩]
end Go.ei
namespace Go.aL
open Go Go.ei
def mY:(i:bN)→fZ i→List aB
 | .str,x=>[⟨.str,x⟩]
 | .i64,x=>[⟨.int .i64,x⟩]
 | .bool,x=>[⟨.bool,x⟩]
 | .u8,x=>[⟨.int .u8,x⟩]
 | .bH,x=>x.cz
 | .h4,x=>x.cz
 | .mK,x=>x.cz
 | .dD,x=>x.cz
 | .jC,x=>x.cz
 | .bf,x=>x.cz
 | .kZ,x=>x.cz
 | .Attr,x=>x.cz
 | .Command,x=>x.cz
 | .iI,x=>x.cz
 | .iK,x=>x.cz
 | .Home,x=>x.cz
 | .Change,x=>x.cz
 | .mL,x=>x.cz
 | .jl,x=>x.cz
 | .iJ,x=>x.cz
 | .jJ,x=>x.cz
 | .Config,x=>x.cz
 | .k0,x=>x.cz
 | .kY,x=>x.cz
 | .mM,x=>x.cz
 | .kX,x=>x.cz
 | .mN,x=>x.cz
 | .nA,x=>x.cz
 | .nz,x=>x.cz
 | .Case,x=>x.cz
 | .Rd,x=>x.cz
 | .cd,x=>x.cz
def Yp:(r:aU)→r.den→List bd
 | .st c,x=>(mY c x).map fun d=>lH d.r d.v
 |r,x=>[lH r x]
def fM:(r:aU)→r.den→bd
 | .mp k v,l=>.mp v.agg (l.map fun p=>Yo k p.1) (l.map fun p=>Yp v p.2)
 |r,x=>lH r x
def aB.au(d:aB):bd:=fM d.r d.v
def fh:bN→List aU
 | .str=>[.str]
 | .i64=>[.int .i64]
 | .bool=>[.bool]
 | .u8=>[.int .u8]
 | .bH=>[.int .i64,.int .i64,.str]
 | .h4=>[.int .i64,.str,.str]
 | .mK=>[.int .i64,.str,.str]
 | .dD=>[.int .i64,.int .i64,.int .i64,.str,.str,.str,.int .i64,.int .i64,.str,.str]
 | .jC=>[.str,.int .i64,.int .i64,.int .i64,.str,.str,.str,.int .i64,.int .i64,.str,.str]
 | .bf=>[.int .i64,.int .i64,.int .i64,.int .i64,.str,.str,.int .i64,.int .i64,.str,.int .i64,.str,.str,.str,.int .i64,.int .i64,.int .i64,.str,.str,.str,.int .i64,.int .i64,.str,.str]
 | .kZ=>[.int .i64,.str,.int .i64]
 | .Attr=>[.str,.int .i64,.int .i64,.int .i64,.li .str,.bool,.bool]
 | .Command=>[.str,.str,.int .i64,.int .i64,.int .i64,.li .str,.bool,.bool,.li .kZ]
 | .iI=>[.str,.li .Attr,.li .Command,.li .str]
 | .iK=>[.int .i64,.int .u64,.int .i64,.bool,.int .i64,.str,.li .str]
 | .Home=>[.li .iI,.li .iK]
 | .Change=>[.int .i64,.int .i64]
 | .mL=>[.int .i64,.li .Change]
 | .jl=>[.int .i64,.int .i64,.int .i64,.str,.int .i64,.int .i64,.str,.int .i64,.str,.str,.li .jl]
 | .iJ=>[.int .i64,.str,.str,.int .i64,.int .i64,.str,.int .i64]
 | .jJ=>[.str,.int .i64,.int .i64,.int .i64,.int .i64,.str,.int .i64,.int .i64,.str,.int .i64,.str,.str,.li .jl,.bool,.li .iJ,.li .iJ]
 | .Config=>[.li .iI,.li .iK,.li .str,.li .jJ,.int .i64,.li .Change,.int .u64]
 | .k0=>[.int .i64,.int .i64]
 | .kY=>[.str,.int .i64,.li .k0,.li .str,.bool]
 | .mM=>[.int .i64,.int .u64]
 | .kX=>[.str,.int .i64,.int .u64]
 | .mN=>[.int .i64,.str,.int .i64]
 | .nA=>[.int .i64,.str,.str,.int .i64,.int .i64,.str,.int .i64,.str,.int .i64,.int .i64]
 | .nz=>[.str,.int .i64,.int .i64,.int .i64]
 | .Case=>[.li .iI,.li .iK,.li .str,.li .jJ,.int .i64,.li .Change,.int .u64,.li .kY,.li .kX,.li .i64,.str,.int .i64,.int .i64,.int .i64,.str,.str,.str,.int .i64,.int .i64,.str,.str,.int .i64,.int .i64]
 | .Rd=>[.str,.int .i64,.bool]
 | .cd=>[.str,.int .i64,.int .i64,.bool]
def oB:(i:bN)→List aB→fZ i
 | .str,l=>(l.getD 0 aB.d).as (.str)
 | .i64,l=>(l.getD 0 aB.d).as (.int .i64)
 | .bool,l=>(l.getD 0 aB.d).as (.bool)
 | .u8,l=>(l.getD 0 aB.d).as (.int .u8)
 | .bH,l=>⟨(l.getD 0 aB.d).as (.int .i64),(l.getD 1 aB.d).as (.int .i64),(l.getD 2 aB.d).as (.str)⟩
 | .h4,l=>⟨(l.getD 0 aB.d).as (.int .i64),(l.getD 1 aB.d).as (.str),(l.getD 2 aB.d).as (.str)⟩
 | .mK,l=>⟨(l.getD 0 aB.d).as (.int .i64),(l.getD 1 aB.d).as (.str),(l.getD 2 aB.d).as (.str)⟩
 | .dD,l=>⟨(l.getD 0 aB.d).as (.int .i64),(l.getD 1 aB.d).as (.int .i64),⟨(l.getD 2 aB.d).as (.int .i64),(l.getD 3 aB.d).as (.str),(l.getD 4 aB.d).as (.str)⟩,(l.getD 5 aB.d).as (.str),⟨(l.getD 6 aB.d).as (.int .i64),(l.getD 7 aB.d).as (.int .i64),(l.getD 8 aB.d).as (.str)⟩,(l.getD 9 aB.d).as (.str)⟩
 | .jC,l=>⟨(l.getD 0 aB.d).as (.str),⟨(l.getD 1 aB.d).as (.int .i64),(l.getD 2 aB.d).as (.int .i64),⟨(l.getD 3 aB.d).as (.int .i64),(l.getD 4 aB.d).as (.str),(l.getD 5 aB.d).as (.str)⟩,(l.getD 6 aB.d).as (.str),⟨(l.getD 7 aB.d).as (.int .i64),(l.getD 8 aB.d).as (.int .i64),(l.getD 9 aB.d).as (.str)⟩,(l.getD 10 aB.d).as (.str)⟩⟩
 | .bf,l=>⟨(l.getD 0 aB.d).as (.int .i64),(l.getD 1 aB.d).as (.int .i64),(l.getD 2 aB.d).as (.int .i64),⟨(l.getD 3 aB.d).as (.int .i64),(l.getD 4 aB.d).as (.str),(l.getD 5 aB.d).as (.str)⟩,⟨(l.getD 6 aB.d).as (.int .i64),(l.getD 7 aB.d).as (.int .i64),(l.getD 8 aB.d).as (.str)⟩,⟨(l.getD 9 aB.d).as (.int .i64),(l.getD 10 aB.d).as (.str),(l.getD 11 aB.d).as (.str)⟩,⟨(l.getD 12 aB.d).as (.str),⟨(l.getD 13 aB.d).as (.int .i64),(l.getD 14 aB.d).as (.int .i64),⟨(l.getD 15 aB.d).as (.int .i64),(l.getD 16 aB.d).as (.str),(l.getD 17 aB.d).as (.str)⟩,(l.getD 18 aB.d).as (.str),⟨(l.getD 19 aB.d).as (.int .i64),(l.getD 20 aB.d).as (.int .i64),(l.getD 21 aB.d).as (.str)⟩,(l.getD 22 aB.d).as (.str)⟩⟩⟩
 | .kZ,l=>⟨(l.getD 0 aB.d).as (.int .i64),(l.getD 1 aB.d).as (.str),(l.getD 2 aB.d).as (.int .i64)⟩
 | .Attr,l=>⟨(l.getD 0 aB.d).as (.str),(l.getD 1 aB.d).as (.int .i64),(l.getD 2 aB.d).as (.int .i64),(l.getD 3 aB.d).as (.int .i64),(l.getD 4 aB.d).as (.li .str),(l.getD 5 aB.d).as (.bool),(l.getD 6 aB.d).as (.bool)⟩
 | .Command,l=>⟨(l.getD 0 aB.d).as (.str),⟨(l.getD 1 aB.d).as (.str),(l.getD 2 aB.d).as (.int .i64),(l.getD 3 aB.d).as (.int .i64),(l.getD 4 aB.d).as (.int .i64),(l.getD 5 aB.d).as (.li .str),(l.getD 6 aB.d).as (.bool),(l.getD 7 aB.d).as (.bool)⟩,(l.getD 8 aB.d).as (.li .kZ)⟩
 | .iI,l=>⟨(l.getD 0 aB.d).as (.str),(l.getD 1 aB.d).as (.li .Attr),(l.getD 2 aB.d).as (.li .Command),(l.getD 3 aB.d).as (.li .str)⟩
 | .iK,l=>⟨(l.getD 0 aB.d).as (.int .i64),(l.getD 1 aB.d).as (.int .u64),(l.getD 2 aB.d).as (.int .i64),(l.getD 3 aB.d).as (.bool),(l.getD 4 aB.d).as (.int .i64),(l.getD 5 aB.d).as (.str),(l.getD 6 aB.d).as (.li .str)⟩
 | .Home,l=>⟨(l.getD 0 aB.d).as (.li .iI),(l.getD 1 aB.d).as (.li .iK)⟩
 | .Change,l=>⟨(l.getD 0 aB.d).as (.int .i64),(l.getD 1 aB.d).as (.int .i64)⟩
 | .mL,l=>⟨(l.getD 0 aB.d).as (.int .i64),(l.getD 1 aB.d).as (.li .Change)⟩
 | .jl,l=>⟨(l.getD 0 aB.d).as (.int .i64),(l.getD 1 aB.d).as (.int .i64),(l.getD 2 aB.d).as (.int .i64),(l.getD 3 aB.d).as (.str),⟨(l.getD 4 aB.d).as (.int .i64),(l.getD 5 aB.d).as (.int .i64),(l.getD 6 aB.d).as (.str)⟩,⟨(l.getD 7 aB.d).as (.int .i64),(l.getD 8 aB.d).as (.str),(l.getD 9 aB.d).as (.str)⟩,(l.getD 10 aB.d).as (.li .jl)⟩
 | .iJ,l=>⟨⟨(l.getD 0 aB.d).as (.int .i64),(l.getD 1 aB.d).as (.str),(l.getD 2 aB.d).as (.str)⟩,⟨(l.getD 3 aB.d).as (.int .i64),(l.getD 4 aB.d).as (.int .i64),(l.getD 5 aB.d).as (.str)⟩,(l.getD 6 aB.d).as (.int .i64)⟩
 | .jJ,l=>⟨(l.getD 0 aB.d).as (.str),(l.getD 1 aB.d).as (.int .i64),⟨(l.getD 2 aB.d).as (.int .i64),(l.getD 3 aB.d).as (.int .i64),(l.getD 4 aB.d).as (.int .i64),(l.getD 5 aB.d).as (.str),⟨(l.getD 6 aB.d).as (.int .i64),(l.getD 7 aB.d).as (.int .i64),(l.getD 8 aB.d).as (.str)⟩,⟨(l.getD 9 aB.d).as (.int .i64),(l.getD 10 aB.d).as (.str),(l.getD 11 aB.d).as (.str)⟩,(l.getD 12 aB.d).as (.li .jl)⟩,(l.getD 13 aB.d).as (.bool),(l.getD 14 aB.d).as (.li .iJ),(l.getD 15 aB.d).as (.li .iJ)⟩
 | .Config,l=>⟨⟨(l.getD 0 aB.d).as (.li .iI),(l.getD 1 aB.d).as (.li .iK)⟩,(l.getD 2 aB.d).as (.li .str),(l.getD 3 aB.d).as (.li .jJ),⟨(l.getD 4 aB.d).as (.int .i64),(l.getD 5 aB.d).as (.li .Change)⟩,(l.getD 6 aB.d).as (.int .u64)⟩
 | .k0,l=>⟨(l.getD 0 aB.d).as (.int .i64),(l.getD 1 aB.d).as (.int .i64)⟩
 | .kY,l=>⟨(l.getD 0 aB.d).as (.str),(l.getD 1 aB.d).as (.int .i64),(l.getD 2 aB.d).as (.li .k0),(l.getD 3 aB.d).as (.li .str),(l.getD 4 aB.d).as (.bool)⟩
 | .mM,l=>⟨(l.getD 0 aB.d).as (.int .i64),(l.getD 1 aB.d).as (.int .u64)⟩
 | .kX,l=>⟨(l.getD 0 aB.d).as (.str),⟨(l.getD 1 aB.d).as (.int .i64),(l.getD 2 aB.d).as (.int .u64)⟩⟩
 | .mN,l=>⟨(l.getD 0 aB.d).as (.int .i64),(l.getD 1 aB.d).as (.str),(l.getD 2 aB.d).as (.int .i64)⟩
 | .nA,l=>⟨⟨(l.getD 0 aB.d).as (.int .i64),(l.getD 1 aB.d).as (.str),(l.getD 2 aB.d).as (.str)⟩,⟨(l.getD 3 aB.d).as (.int .i64),(l.getD 4 aB.d).as (.int .i64),(l.getD 5 aB.d).as (.str)⟩,⟨(l.getD 6 aB.d).as (.int .i64),(l.getD 7 aB.d).as (.str),(l.getD 8 aB.d).as (.int .i64)⟩,(l.getD 9 aB.d).as (.int .i64)⟩
 | .nz,l=>⟨(l.getD 0 aB.d).as (.str),(l.getD 1 aB.d).as (.int .i64),(l.getD 2 aB.d).as (.int .i64),(l.getD 3 aB.d).as (.int .i64)⟩
 | .Case,l=>⟨⟨⟨(l.getD 0 aB.d).as (.li .iI),(l.getD 1 aB.d).as (.li .iK)⟩,(l.getD 2 aB.d).as (.li .str),(l.getD 3 aB.d).as (.li .jJ),⟨(l.getD 4 aB.d).as (.int .i64),(l.getD 5 aB.d).as (.li .Change)⟩,(l.getD 6 aB.d).as (.int .u64)⟩,(l.getD 7 aB.d).as (.li .kY),(l.getD 8 aB.d).as (.li .kX),(l.getD 9 aB.d).as (.li .i64),⟨(l.getD 10 aB.d).as (.str),⟨(l.getD 11 aB.d).as (.int .i64),(l.getD 12 aB.d).as (.int .i64),⟨(l.getD 13 aB.d).as (.int .i64),(l.getD 14 aB.d).as (.str),(l.getD 15 aB.d).as (.str)⟩,(l.getD 16 aB.d).as (.str),⟨(l.getD 17 aB.d).as (.int .i64),(l.getD 18 aB.d).as (.int .i64),(l.getD 19 aB.d).as (.str)⟩,(l.getD 20 aB.d).as (.str)⟩⟩,(l.getD 21 aB.d).as (.int .i64),(l.getD 22 aB.d).as (.int .i64)⟩
 | .Rd,l=>⟨(l.getD 0 aB.d).as (.str),(l.getD 1 aB.d).as (.int .i64),(l.getD 2 aB.d).as (.bool)⟩
 | .cd,l=>⟨(l.getD 0 aB.d).as (.str),(l.getD 1 aB.d).as (.int .i64),(l.getD 2 aB.d).as (.int .i64),(l.getD 3 aB.d).as (.bool)⟩
def cX(i:bN)(x:fZ i):List bd:=(mY i x).map aB.au
def c5:bN→Nat
 | .str=>1
 | .i64=>1
 | .bool=>1
 | .u8=>1
 | .bH=>3
 | .h4=>3
 | .mK=>3
 | .dD=>10
 | .jC=>11
 | .bf=>23
 | .kZ=>3
 | .Attr=>7
 | .Command=>9
 | .iI=>4
 | .iK=>7
 | .Home=>2
 | .Change=>2
 | .mL=>2
 | .jl=>11
 | .iJ=>7
 | .jJ=>16
 | .Config=>7
 | .k0=>2
 | .kY=>5
 | .mM=>2
 | .kX=>3
 | .mN=>3
 | .nA=>10
 | .nz=>4
 | .Case=>23
 | .Rd=>3
 | .cd=>4
theorem O0(i:bN)(x:fZ i):(mY i x).map aB.r=fh i:=by cases i<;>rfl
theorem BW(i:bN)(x:fZ i):(cX i x).length=c5 i:=by cases i<;>rfl
theorem yO(d:aB):(⟨d.r,d.as d.r⟩:aB)=d:=by
 unfold aB.as
 split
 ·rfl
 ·rename_i h _;exact absurd rfl h
theorem BX{d:aB}{r:aU}(h:d.r=r):(⟨r,d.as r⟩:aB)=d:=by subst h;exact yO d
theorem mb{α β:Type}{f:α→β}{l:List α}(h:l.map f=[]):l=[]:=by cases l<;>simp_all
theorem lI{α β:Type}{f:α→β}{l:List α}{b:β}{cx:List β}(h:l.map f=b::cx): ∃a hG,l=a::hG∧f a=b∧hG.map f=cx:=by
 cases l with
 |nil=>cases h
 |cons a hG=>simp only[List.map_cons,List.cons.injEq]at h;exact⟨a,hG,rfl,h.1,h.2⟩
theorem HI(i:bN)(l:List aB)(h:l.map aB.r=fh i):mY i (oB i l)=l:=by
 cases i<;>simp only[fh]at h<;>(repeat (obtain⟨_,_,rfl,af,h⟩:=lI h;rw[←BX af];clear af))<;>(cases mb h)<;>rfl
end Go.aL
