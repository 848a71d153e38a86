/- Test: the data as Lean structures, codes of types, typed values, immutable values. Conditions: none. -/
import Derived.WalkKit
import Derived.KernelRfl
namespace Go.eO
open Go
structure cY where
 kind:Int
 n:Int
 s:ByteArray
structure dr where
 dev:Int
 dc:ByteArray
 attr:ByteArray
structure mr where
 dev:Int
 dc:ByteArray
 name:ByteArray
structure b3 where
 kind:Int
 dS:Int
 key:dr
 name:ByteArray
 value:cY
 text:ByteArray
structure fx where
 token:ByteArray
 request:b3
structure nc where
 kind:Int
 n:Int
 m:Int
 key:dr
 value:cY
 event:mr
 asked:fx
structure cS where
 kind:Int
 attr:ByteArray
 n:Int
structure Attr where
 name:ByteArray
 kind:Int
 min:Int
 max:Int
 enum:List ByteArray
 fA:Bool
 safety:Bool
structure Command where
 name:ByteArray
 param:Attr
 gC:List cS
structure aN where
 name:ByteArray
 attrs:List Attr
 commands:List Command
 events:List ByteArray
structure bR where
 id:Int
 gW:Int
 n7:Int
 n8:Bool
 kF:Int
 room:ByteArray
 bH:List ByteArray
structure Home where
 bH:List aN
 bw:List bR
structure Change where
 at_:Int
 offset:Int
structure mv where
 offset:Int
 changes:List Change
structure jA where
 kind:Int
 n:Int
 m:Int
 name:ByteArray
 value:cY
 key:dr
 kids:List jA
structure ja where
 key:dr
 value:cY
 version:Int
structure jP where
 name:ByteArray
 zcy:Int
 when:jA
 zcz:Bool
 force:List ja
 zcA:List ja
structure Config where
 home:Home
 kv:List ByteArray
 ky:List jP
 gj:mv
 key:Int
structure eR where
 from_:Int
 vF:Int
structure cg where
 name:ByteArray
 role:Int
 k9:List eR
 fN:List ByteArray
 home:Bool
structure dA where
 top:Int
 bits:Int
structure bA where
 cr:ByteArray
 hN:dA
structure mw where
 kind:Int
 name:ByteArray
 priority:Int
structure nd where
 key:dr
 value:cY
 zcB:mw
 order:Int
structure eK where
 cr:ByteArray
 id:Int
 od:Int
 oe:Int
structure Case where
 c:Config
 members:List cg
 gk:List bA
 gS:List Int
 a:fx
 now:Int
 dD:Int
structure Rd where
 rest:ByteArray
 err:Int
 made:Bool
structure nf where
 s:ByteArray
 at_:Int
 bad:Int
 made:Bool
end Go.eO
namespace Go.aK
open Go Go.eO
inductive bF where
 |str
 |i64
 |bool
 |u8
 |cY
 |dr
 |mr
 |b3
 |fx
 |nc
 |cS
 |Attr
 |Command
 |aN
 |bR
 |Home
 |Change
 |mv
 |jA
 |ja
 |jP
 |Config
 |eR
 |cg
 |dA
 |bA
 |mw
 |nd
 |eK
 |Case
 |Rd
 |nf
 deriving DecidableEq
def zcC:List bF:=[.str,.i64,.bool,.u8,.cY,.dr,.mr,.b3,.fx,.nc,.cS,.Attr,.Command,.aN,.bR,.Home,.Change,.mv,.jA,.ja,.jP,.Config,.eR,.cg,.dA,.bA,.mw,.nd,.eK,.Case,.Rd,.nf]
@[reducible] def fO:bF→Type
 | .str=>ByteArray
 | .i64=>Int
 | .bool=>Bool
 | .u8=>Int
 | .cY=>cY
 | .dr=>dr
 | .mr=>mr
 | .b3=>b3
 | .fx=>fx
 | .nc=>nc
 | .cS=>cS
 | .Attr=>Attr
 | .Command=>Command
 | .aN=>aN
 | .bR=>bR
 | .Home=>Home
 | .Change=>Change
 | .mv=>mv
 | .jA=>jA
 | .ja=>ja
 | .jP=>jP
 | .Config=>Config
 | .eR=>eR
 | .cg=>cg
 | .dA=>dA
 | .bA=>bA
 | .mw=>mw
 | .nd=>nd
 | .eK=>eK
 | .Case=>Case
 | .Rd=>Rd
 | .nf=>nf
def aE:(i:bF)→fO i
 | .str=>⟨#[]⟩
 | .i64=>0
 | .bool=>false
 | .u8=>0
 | .cY=>⟨0,0,⟨#[]⟩⟩
 | .dr=>⟨0,⟨#[]⟩,⟨#[]⟩⟩
 | .mr=>⟨0,⟨#[]⟩,⟨#[]⟩⟩
 | .b3=>⟨0,0,⟨0,⟨#[]⟩,⟨#[]⟩⟩,⟨#[]⟩,⟨0,0,⟨#[]⟩⟩,⟨#[]⟩⟩
 | .fx=>⟨⟨#[]⟩,⟨0,0,⟨0,⟨#[]⟩,⟨#[]⟩⟩,⟨#[]⟩,⟨0,0,⟨#[]⟩⟩,⟨#[]⟩⟩⟩
 | .nc=>⟨0,0,0,⟨0,⟨#[]⟩,⟨#[]⟩⟩,⟨0,0,⟨#[]⟩⟩,⟨0,⟨#[]⟩,⟨#[]⟩⟩,⟨⟨#[]⟩,⟨0,0,⟨0,⟨#[]⟩,⟨#[]⟩⟩,⟨#[]⟩,⟨0,0,⟨#[]⟩⟩,⟨#[]⟩⟩⟩⟩
 | .cS=>⟨0,⟨#[]⟩,0⟩
 | .Attr=>⟨⟨#[]⟩,0,0,0,[],false,false⟩
 | .Command=>⟨⟨#[]⟩,⟨⟨#[]⟩,0,0,0,[],false,false⟩,[]⟩
 | .aN=>⟨⟨#[]⟩,[],[],[]⟩
 | .bR=>⟨0,0,0,false,0,⟨#[]⟩,[]⟩
 | .Home=>⟨[],[]⟩
 | .Change=>⟨0,0⟩
 | .mv=>⟨0,[]⟩
 | .jA=>⟨0,0,0,⟨#[]⟩,⟨0,0,⟨#[]⟩⟩,⟨0,⟨#[]⟩,⟨#[]⟩⟩,[]⟩
 | .ja=>⟨⟨0,⟨#[]⟩,⟨#[]⟩⟩,⟨0,0,⟨#[]⟩⟩,0⟩
 | .jP=>⟨⟨#[]⟩,0,⟨0,0,0,⟨#[]⟩,⟨0,0,⟨#[]⟩⟩,⟨0,⟨#[]⟩,⟨#[]⟩⟩,[]⟩,false,[],[]⟩
 | .Config=>⟨⟨[],[]⟩,[],[],⟨0,[]⟩,0⟩
 | .eR=>⟨0,0⟩
 | .cg=>⟨⟨#[]⟩,0,[],[],false⟩
 | .dA=>⟨0,0⟩
 | .bA=>⟨⟨#[]⟩,⟨0,0⟩⟩
 | .mw=>⟨0,⟨#[]⟩,0⟩
 | .nd=>⟨⟨0,⟨#[]⟩,⟨#[]⟩⟩,⟨0,0,⟨#[]⟩⟩,⟨0,⟨#[]⟩,0⟩,0⟩
 | .eK=>⟨⟨#[]⟩,0,0,0⟩
 | .Case=>⟨⟨⟨[],[]⟩,[],[],⟨0,[]⟩,0⟩,[],[],[],⟨⟨#[]⟩,⟨0,0,⟨0,⟨#[]⟩,⟨#[]⟩⟩,⟨#[]⟩,⟨0,0,⟨#[]⟩⟩,⟨#[]⟩⟩⟩,0,0⟩
 | .Rd=>⟨⟨#[]⟩,0,false⟩
 | .nf=>⟨⟨#[]⟩,0,0,false⟩
inductive aU where
 |int (k:IntKind)
 |bool
 |str
 |li (c:bF)
 |st (c:bF)
 |y8 (x y:aU)
 |un
 |mp (k v:aU)
 deriving DecidableEq
@[reducible] def aU.den:aU→Type
 | .int _=>Int
 | .bool=>Bool
 | .str=>ByteArray
 | .li c=>List (fO c)
 | .st c=>fO c
 | .y8 x y=>x.den × y.den
 | .un=>Unit
 | .mp k v=>List (k.den × v.den)
def aU.fv:(r:aU)→r.den
 | .int _=>(0:Int)
 | .bool=>false
 | .str=>(⟨#[]⟩:ByteArray)
 | .li c=>([]:List (fO c))
 | .st c=>aE c
 | .y8 x y=>(x.fv,y.fv)
 | .un=>()
 | .mp k v=>([]:List (k.den × v.den))
structure aF where
 r:aU
 v:r.den
def aF.d:aF:=⟨.un,()⟩
def aF.aG(r:aU)(d:aF):r.den:=
 match decEq d.r r with
 | .isTrue h=>h ▸ d.v
 | .isFalse _=>r.fv
inductive a1 where
 |v (x:Value)
 |ptr (cs:List a1)
 |aM (n:Nat) (es:List (List a1))
 |mp (agg:Bool) (ks:List Value) (vs:List (List a1))
 |li (i:bF) (l:List (fO i))
 |ek (t:TypeId) (agg:Bool) (cs:List a1)
def jY:(r:aU)→r.den→a1
 | .int k,n=>.v (.int k n)
 | .bool,b=>.v (.bool b)
 | .str,x=>.v (.string x)
 | .li c,l=>.li c l
 |_,_=>.v undef
def kU:(r:aU)→r.den→Value
 | .int k,n=>.int k n
 | .bool,b=>.bool b
 | .str,x=>.string x
 |_,_=>undef
def aU.agg:aU→Bool
 | .st _=>true
 |_=>false
end Go.aK
namespace Go.eO
open Go Go.aK
def cY.cR(x:cY):List aF:=[⟨.int .i64,x.kind⟩,⟨.int .i64,x.n⟩,⟨.str,x.s⟩]
def dr.cR(x:dr):List aF:=[⟨.int .i64,x.dev⟩,⟨.str,x.dc⟩,⟨.str,x.attr⟩]
def mr.cR(x:mr):List aF:=[⟨.int .i64,x.dev⟩,⟨.str,x.dc⟩,⟨.str,x.name⟩]
def b3.cR(x:b3):List aF:=⟨.int .i64,x.kind⟩::⟨.int .i64,x.dS⟩::(x.key.cR++⟨.str,x.name⟩::(x.value.cR++[⟨.str,x.text⟩]))
def fx.cR(x:fx):List aF:=⟨.str,x.token⟩::x.request.cR
def nc.cR(x:nc):List aF:=⟨.int .i64,x.kind⟩::⟨.int .i64,x.n⟩::⟨.int .i64,x.m⟩::(x.key.cR++(x.value.cR++(x.event.cR++x.asked.cR)))
def cS.cR(x:cS):List aF:=[⟨.int .i64,x.kind⟩,⟨.str,x.attr⟩,⟨.int .i64,x.n⟩]
def Attr.cR(x:Attr):List aF:=[⟨.str,x.name⟩,⟨.int .i64,x.kind⟩,⟨.int .i64,x.min⟩,⟨.int .i64,x.max⟩,⟨.li .str,x.enum⟩,⟨.bool,x.fA⟩,⟨.bool,x.safety⟩]
def Command.cR(x:Command):List aF:=⟨.str,x.name⟩::(x.param.cR++[⟨.li .cS,x.gC⟩])
def aN.cR(x:aN):List aF:=[⟨.str,x.name⟩,⟨.li .Attr,x.attrs⟩,⟨.li .Command,x.commands⟩,⟨.li .str,x.events⟩]
def bR.cR(x:bR):List aF:=[⟨.int .i64,x.id⟩,⟨.int .u64,x.gW⟩,⟨.int .i64,x.n7⟩,⟨.bool,x.n8⟩,⟨.int .i64,x.kF⟩,⟨.str,x.room⟩,⟨.li .str,x.bH⟩]
def Home.cR(x:Home):List aF:=[⟨.li .aN,x.bH⟩,⟨.li .bR,x.bw⟩]
def Change.cR(x:Change):List aF:=[⟨.int .i64,x.at_⟩,⟨.int .i64,x.offset⟩]
def mv.cR(x:mv):List aF:=[⟨.int .i64,x.offset⟩,⟨.li .Change,x.changes⟩]
def jA.cR(x:jA):List aF:=⟨.int .i64,x.kind⟩::⟨.int .i64,x.n⟩::⟨.int .i64,x.m⟩::⟨.str,x.name⟩::(x.value.cR++(x.key.cR++[⟨.li .jA,x.kids⟩]))
def ja.cR(x:ja):List aF:=(x.key.cR++(x.value.cR++[⟨.int .i64,x.version⟩]))
def jP.cR(x:jP):List aF:=⟨.str,x.name⟩::⟨.int .i64,x.zcy⟩::(x.when.cR++[⟨.bool,x.zcz⟩,⟨.li .ja,x.force⟩,⟨.li .ja,x.zcA⟩])
def Config.cR(x:Config):List aF:=(x.home.cR++⟨.li .str,x.kv⟩::⟨.li .jP,x.ky⟩::(x.gj.cR++[⟨.int .u64,x.key⟩]))
def eR.cR(x:eR):List aF:=[⟨.int .i64,x.from_⟩,⟨.int .i64,x.vF⟩]
def cg.cR(x:cg):List aF:=[⟨.str,x.name⟩,⟨.int .i64,x.role⟩,⟨.li .eR,x.k9⟩,⟨.li .str,x.fN⟩,⟨.bool,x.home⟩]
def dA.cR(x:dA):List aF:=[⟨.int .i64,x.top⟩,⟨.int .u64,x.bits⟩]
def bA.cR(x:bA):List aF:=⟨.str,x.cr⟩::x.hN.cR
def mw.cR(x:mw):List aF:=[⟨.int .i64,x.kind⟩,⟨.str,x.name⟩,⟨.int .i64,x.priority⟩]
def nd.cR(x:nd):List aF:=(x.key.cR++(x.value.cR++(x.zcB.cR++[⟨.int .i64,x.order⟩])))
def eK.cR(x:eK):List aF:=[⟨.str,x.cr⟩,⟨.int .i64,x.id⟩,⟨.int .i64,x.od⟩,⟨.int .i64,x.oe⟩]
def Case.cR(x:Case):List aF:=(x.c.cR++⟨.li .cg,x.members⟩::⟨.li .bA,x.gk⟩::⟨.li .i64,x.gS⟩::(x.a.cR++[⟨.int .i64,x.now⟩,⟨.int .i64,x.dD⟩]))
def Rd.cR(x:Rd):List aF:=[⟨.str,x.rest⟩,⟨.int .i64,x.err⟩,⟨.bool,x.made⟩]
def nf.cR(x:nf):List aF:=[⟨.str,x.s⟩,⟨.int .i64,x.at_⟩,⟨.int .i64,x.bad⟩,⟨.bool,x.made⟩]
end Go.eO
namespace Go.aK
open Go Go.eO
def ll:(i:bF)→fO i→List aF
 | .str,x=>[⟨.str,x⟩]
 | .i64,x=>[⟨.int .i64,x⟩]
 | .bool,x=>[⟨.bool,x⟩]
 | .u8,x=>[⟨.int .u8,x⟩]
 | .cY,x=>x.cR
 | .dr,x=>x.cR
 | .mr,x=>x.cR
 | .b3,x=>x.cR
 | .fx,x=>x.cR
 | .nc,x=>x.cR
 | .cS,x=>x.cR
 | .Attr,x=>x.cR
 | .Command,x=>x.cR
 | .aN,x=>x.cR
 | .bR,x=>x.cR
 | .Home,x=>x.cR
 | .Change,x=>x.cR
 | .mv,x=>x.cR
 | .jA,x=>x.cR
 | .ja,x=>x.cR
 | .jP,x=>x.cR
 | .Config,x=>x.cR
 | .eR,x=>x.cR
 | .cg,x=>x.cR
 | .dA,x=>x.cR
 | .bA,x=>x.cR
 | .mw,x=>x.cR
 | .nd,x=>x.cR
 | .eK,x=>x.cR
 | .Case,x=>x.cR
 | .Rd,x=>x.cR
 | .nf,x=>x.cR
def il:(r:aU)→r.den→List a1
 | .st c,x=>(ll c x).map fun d=>jY d.r d.v
 |r,x=>[jY r x]
def fF:(r:aU)→r.den→a1
 | .mp k v,l=>.mp v.agg (l.map fun p=>kU k p.1) (l.map fun p=>il v p.2)
 |r,x=>jY r x
def aF.au(d:aF):a1:=fF d.r d.v
def eM:bF→List aU
 | .str=>[.str]
 | .i64=>[.int .i64]
 | .bool=>[.bool]
 | .u8=>[.int .u8]
 | .cY=>[.int .i64,.int .i64,.str]
 | .dr=>[.int .i64,.str,.str]
 | .mr=>[.int .i64,.str,.str]
 | .b3=>[.int .i64,.int .i64,.int .i64,.str,.str,.str,.int .i64,.int .i64,.str,.str]
 | .fx=>[.str,.int .i64,.int .i64,.int .i64,.str,.str,.str,.int .i64,.int .i64,.str,.str]
 | .nc=>[.int .i64,.int .i64,.int .i64,.int .i64,.str,.str,.int .i64,.int .i64,.str,.int .i64,.str,.str,.str,.int .i64,.int .i64,.int .i64,.str,.str,.str,.int .i64,.int .i64,.str,.str]
 | .cS=>[.int .i64,.str,.int .i64]
 | .Attr=>[.str,.int .i64,.int .i64,.int .i64,.li .str,.bool,.bool]
 | .Command=>[.str,.str,.int .i64,.int .i64,.int .i64,.li .str,.bool,.bool,.li .cS]
 | .aN=>[.str,.li .Attr,.li .Command,.li .str]
 | .bR=>[.int .i64,.int .u64,.int .i64,.bool,.int .i64,.str,.li .str]
 | .Home=>[.li .aN,.li .bR]
 | .Change=>[.int .i64,.int .i64]
 | .mv=>[.int .i64,.li .Change]
 | .jA=>[.int .i64,.int .i64,.int .i64,.str,.int .i64,.int .i64,.str,.int .i64,.str,.str,.li .jA]
 | .ja=>[.int .i64,.str,.str,.int .i64,.int .i64,.str,.int .i64]
 | .jP=>[.str,.int .i64,.int .i64,.int .i64,.int .i64,.str,.int .i64,.int .i64,.str,.int .i64,.str,.str,.li .jA,.bool,.li .ja,.li .ja]
 | .Config=>[.li .aN,.li .bR,.li .str,.li .jP,.int .i64,.li .Change,.int .u64]
 | .eR=>[.int .i64,.int .i64]
 | .cg=>[.str,.int .i64,.li .eR,.li .str,.bool]
 | .dA=>[.int .i64,.int .u64]
 | .bA=>[.str,.int .i64,.int .u64]
 | .mw=>[.int .i64,.str,.int .i64]
 | .nd=>[.int .i64,.str,.str,.int .i64,.int .i64,.str,.int .i64,.str,.int .i64,.int .i64]
 | .eK=>[.str,.int .i64,.int .i64,.int .i64]
 | .Case=>[.li .aN,.li .bR,.li .str,.li .jP,.int .i64,.li .Change,.int .u64,.li .cg,.li .bA,.li .i64,.str,.int .i64,.int .i64,.int .i64,.str,.str,.str,.int .i64,.int .i64,.str,.str,.int .i64,.int .i64]
 | .Rd=>[.str,.int .i64,.bool]
 | .nf=>[.str,.int .i64,.int .i64,.bool]
def oG:(i:bF)→List aF→fO i
 | .str,l=>(l.getD 0 aF.d).aG (.str)
 | .i64,l=>(l.getD 0 aF.d).aG (.int .i64)
 | .bool,l=>(l.getD 0 aF.d).aG (.bool)
 | .u8,l=>(l.getD 0 aF.d).aG (.int .u8)
 | .cY,l=>⟨(l.getD 0 aF.d).aG (.int .i64),(l.getD 1 aF.d).aG (.int .i64),(l.getD 2 aF.d).aG (.str)⟩
 | .dr,l=>⟨(l.getD 0 aF.d).aG (.int .i64),(l.getD 1 aF.d).aG (.str),(l.getD 2 aF.d).aG (.str)⟩
 | .mr,l=>⟨(l.getD 0 aF.d).aG (.int .i64),(l.getD 1 aF.d).aG (.str),(l.getD 2 aF.d).aG (.str)⟩
 | .b3,l=>⟨(l.getD 0 aF.d).aG (.int .i64),(l.getD 1 aF.d).aG (.int .i64),⟨(l.getD 2 aF.d).aG (.int .i64),(l.getD 3 aF.d).aG (.str),(l.getD 4 aF.d).aG (.str)⟩,(l.getD 5 aF.d).aG (.str),⟨(l.getD 6 aF.d).aG (.int .i64),(l.getD 7 aF.d).aG (.int .i64),(l.getD 8 aF.d).aG (.str)⟩,(l.getD 9 aF.d).aG (.str)⟩
 | .fx,l=>⟨(l.getD 0 aF.d).aG (.str),⟨(l.getD 1 aF.d).aG (.int .i64),(l.getD 2 aF.d).aG (.int .i64),⟨(l.getD 3 aF.d).aG (.int .i64),(l.getD 4 aF.d).aG (.str),(l.getD 5 aF.d).aG (.str)⟩,(l.getD 6 aF.d).aG (.str),⟨(l.getD 7 aF.d).aG (.int .i64),(l.getD 8 aF.d).aG (.int .i64),(l.getD 9 aF.d).aG (.str)⟩,(l.getD 10 aF.d).aG (.str)⟩⟩
 | .nc,l=>⟨(l.getD 0 aF.d).aG (.int .i64),(l.getD 1 aF.d).aG (.int .i64),(l.getD 2 aF.d).aG (.int .i64),⟨(l.getD 3 aF.d).aG (.int .i64),(l.getD 4 aF.d).aG (.str),(l.getD 5 aF.d).aG (.str)⟩,⟨(l.getD 6 aF.d).aG (.int .i64),(l.getD 7 aF.d).aG (.int .i64),(l.getD 8 aF.d).aG (.str)⟩,⟨(l.getD 9 aF.d).aG (.int .i64),(l.getD 10 aF.d).aG (.str),(l.getD 11 aF.d).aG (.str)⟩,⟨(l.getD 12 aF.d).aG (.str),⟨(l.getD 13 aF.d).aG (.int .i64),(l.getD 14 aF.d).aG (.int .i64),⟨(l.getD 15 aF.d).aG (.int .i64),(l.getD 16 aF.d).aG (.str),(l.getD 17 aF.d).aG (.str)⟩,(l.getD 18 aF.d).aG (.str),⟨(l.getD 19 aF.d).aG (.int .i64),(l.getD 20 aF.d).aG (.int .i64),(l.getD 21 aF.d).aG (.str)⟩,(l.getD 22 aF.d).aG (.str)⟩⟩⟩
 | .cS,l=>⟨(l.getD 0 aF.d).aG (.int .i64),(l.getD 1 aF.d).aG (.str),(l.getD 2 aF.d).aG (.int .i64)⟩
 | .Attr,l=>⟨(l.getD 0 aF.d).aG (.str),(l.getD 1 aF.d).aG (.int .i64),(l.getD 2 aF.d).aG (.int .i64),(l.getD 3 aF.d).aG (.int .i64),(l.getD 4 aF.d).aG (.li .str),(l.getD 5 aF.d).aG (.bool),(l.getD 6 aF.d).aG (.bool)⟩
 | .Command,l=>⟨(l.getD 0 aF.d).aG (.str),⟨(l.getD 1 aF.d).aG (.str),(l.getD 2 aF.d).aG (.int .i64),(l.getD 3 aF.d).aG (.int .i64),(l.getD 4 aF.d).aG (.int .i64),(l.getD 5 aF.d).aG (.li .str),(l.getD 6 aF.d).aG (.bool),(l.getD 7 aF.d).aG (.bool)⟩,(l.getD 8 aF.d).aG (.li .cS)⟩
 | .aN,l=>⟨(l.getD 0 aF.d).aG (.str),(l.getD 1 aF.d).aG (.li .Attr),(l.getD 2 aF.d).aG (.li .Command),(l.getD 3 aF.d).aG (.li .str)⟩
 | .bR,l=>⟨(l.getD 0 aF.d).aG (.int .i64),(l.getD 1 aF.d).aG (.int .u64),(l.getD 2 aF.d).aG (.int .i64),(l.getD 3 aF.d).aG (.bool),(l.getD 4 aF.d).aG (.int .i64),(l.getD 5 aF.d).aG (.str),(l.getD 6 aF.d).aG (.li .str)⟩
 | .Home,l=>⟨(l.getD 0 aF.d).aG (.li .aN),(l.getD 1 aF.d).aG (.li .bR)⟩
 | .Change,l=>⟨(l.getD 0 aF.d).aG (.int .i64),(l.getD 1 aF.d).aG (.int .i64)⟩
 | .mv,l=>⟨(l.getD 0 aF.d).aG (.int .i64),(l.getD 1 aF.d).aG (.li .Change)⟩
 | .jA,l=>⟨(l.getD 0 aF.d).aG (.int .i64),(l.getD 1 aF.d).aG (.int .i64),(l.getD 2 aF.d).aG (.int .i64),(l.getD 3 aF.d).aG (.str),⟨(l.getD 4 aF.d).aG (.int .i64),(l.getD 5 aF.d).aG (.int .i64),(l.getD 6 aF.d).aG (.str)⟩,⟨(l.getD 7 aF.d).aG (.int .i64),(l.getD 8 aF.d).aG (.str),(l.getD 9 aF.d).aG (.str)⟩,(l.getD 10 aF.d).aG (.li .jA)⟩
 | .ja,l=>⟨⟨(l.getD 0 aF.d).aG (.int .i64),(l.getD 1 aF.d).aG (.str),(l.getD 2 aF.d).aG (.str)⟩,⟨(l.getD 3 aF.d).aG (.int .i64),(l.getD 4 aF.d).aG (.int .i64),(l.getD 5 aF.d).aG (.str)⟩,(l.getD 6 aF.d).aG (.int .i64)⟩
 | .jP,l=>⟨(l.getD 0 aF.d).aG (.str),(l.getD 1 aF.d).aG (.int .i64),⟨(l.getD 2 aF.d).aG (.int .i64),(l.getD 3 aF.d).aG (.int .i64),(l.getD 4 aF.d).aG (.int .i64),(l.getD 5 aF.d).aG (.str),⟨(l.getD 6 aF.d).aG (.int .i64),(l.getD 7 aF.d).aG (.int .i64),(l.getD 8 aF.d).aG (.str)⟩,⟨(l.getD 9 aF.d).aG (.int .i64),(l.getD 10 aF.d).aG (.str),(l.getD 11 aF.d).aG (.str)⟩,(l.getD 12 aF.d).aG (.li .jA)⟩,(l.getD 13 aF.d).aG (.bool),(l.getD 14 aF.d).aG (.li .ja),(l.getD 15 aF.d).aG (.li .ja)⟩
 | .Config,l=>⟨⟨(l.getD 0 aF.d).aG (.li .aN),(l.getD 1 aF.d).aG (.li .bR)⟩,(l.getD 2 aF.d).aG (.li .str),(l.getD 3 aF.d).aG (.li .jP),⟨(l.getD 4 aF.d).aG (.int .i64),(l.getD 5 aF.d).aG (.li .Change)⟩,(l.getD 6 aF.d).aG (.int .u64)⟩
 | .eR,l=>⟨(l.getD 0 aF.d).aG (.int .i64),(l.getD 1 aF.d).aG (.int .i64)⟩
 | .cg,l=>⟨(l.getD 0 aF.d).aG (.str),(l.getD 1 aF.d).aG (.int .i64),(l.getD 2 aF.d).aG (.li .eR),(l.getD 3 aF.d).aG (.li .str),(l.getD 4 aF.d).aG (.bool)⟩
 | .dA,l=>⟨(l.getD 0 aF.d).aG (.int .i64),(l.getD 1 aF.d).aG (.int .u64)⟩
 | .bA,l=>⟨(l.getD 0 aF.d).aG (.str),⟨(l.getD 1 aF.d).aG (.int .i64),(l.getD 2 aF.d).aG (.int .u64)⟩⟩
 | .mw,l=>⟨(l.getD 0 aF.d).aG (.int .i64),(l.getD 1 aF.d).aG (.str),(l.getD 2 aF.d).aG (.int .i64)⟩
 | .nd,l=>⟨⟨(l.getD 0 aF.d).aG (.int .i64),(l.getD 1 aF.d).aG (.str),(l.getD 2 aF.d).aG (.str)⟩,⟨(l.getD 3 aF.d).aG (.int .i64),(l.getD 4 aF.d).aG (.int .i64),(l.getD 5 aF.d).aG (.str)⟩,⟨(l.getD 6 aF.d).aG (.int .i64),(l.getD 7 aF.d).aG (.str),(l.getD 8 aF.d).aG (.int .i64)⟩,(l.getD 9 aF.d).aG (.int .i64)⟩
 | .eK,l=>⟨(l.getD 0 aF.d).aG (.str),(l.getD 1 aF.d).aG (.int .i64),(l.getD 2 aF.d).aG (.int .i64),(l.getD 3 aF.d).aG (.int .i64)⟩
 | .Case,l=>⟨⟨⟨(l.getD 0 aF.d).aG (.li .aN),(l.getD 1 aF.d).aG (.li .bR)⟩,(l.getD 2 aF.d).aG (.li .str),(l.getD 3 aF.d).aG (.li .jP),⟨(l.getD 4 aF.d).aG (.int .i64),(l.getD 5 aF.d).aG (.li .Change)⟩,(l.getD 6 aF.d).aG (.int .u64)⟩,(l.getD 7 aF.d).aG (.li .cg),(l.getD 8 aF.d).aG (.li .bA),(l.getD 9 aF.d).aG (.li .i64),⟨(l.getD 10 aF.d).aG (.str),⟨(l.getD 11 aF.d).aG (.int .i64),(l.getD 12 aF.d).aG (.int .i64),⟨(l.getD 13 aF.d).aG (.int .i64),(l.getD 14 aF.d).aG (.str),(l.getD 15 aF.d).aG (.str)⟩,(l.getD 16 aF.d).aG (.str),⟨(l.getD 17 aF.d).aG (.int .i64),(l.getD 18 aF.d).aG (.int .i64),(l.getD 19 aF.d).aG (.str)⟩,(l.getD 20 aF.d).aG (.str)⟩⟩,(l.getD 21 aF.d).aG (.int .i64),(l.getD 22 aF.d).aG (.int .i64)⟩
 | .Rd,l=>⟨(l.getD 0 aF.d).aG (.str),(l.getD 1 aF.d).aG (.int .i64),(l.getD 2 aF.d).aG (.bool)⟩
 | .nf,l=>⟨(l.getD 0 aF.d).aG (.str),(l.getD 1 aF.d).aG (.int .i64),(l.getD 2 aF.d).aG (.int .i64),(l.getD 3 aF.d).aG (.bool)⟩
def b9(i:bF)(x:fO i):List a1:=(ll i x).map aF.au
def bZ:bF→Nat
 | .str=>1
 | .i64=>1
 | .bool=>1
 | .u8=>1
 | .cY=>3
 | .dr=>3
 | .mr=>3
 | .b3=>10
 | .fx=>11
 | .nc=>23
 | .cS=>3
 | .Attr=>7
 | .Command=>9
 | .aN=>4
 | .bR=>7
 | .Home=>2
 | .Change=>2
 | .mv=>2
 | .jA=>11
 | .ja=>7
 | .jP=>16
 | .Config=>7
 | .eR=>2
 | .cg=>5
 | .dA=>2
 | .bA=>3
 | .mw=>3
 | .nd=>10
 | .eK=>4
 | .Case=>23
 | .Rd=>3
 | .nf=>4
theorem Jj(i:bF)(x:fO i):(ll i x).map aF.r=eM i:=by cases i<;>rfl
theorem Cx(i:bF)(x:fO i):(b9 i x).length=bZ i:=by cases i<;>rfl
theorem y9(d:aF):(⟨d.r,d.aG d.r⟩:aF)=d:=by
 unfold aF.aG
 split
 ·rfl
 ·rename_i h _;exact absurd rfl h
theorem Cy{d:aF}{r:aU}(h:d.r=r):(⟨r,d.aG r⟩:aF)=d:=by subst h;exact y9 d
theorem l5{α β:Type}{f:α→β}{l:List α}(h:l.map f=[]):l=[]:=by cases l<;>simp_all
theorem ln{α β:Type}{f:α→β}{l:List α}{b:β}{cM:List β}(h:l.map f=b::cM): ∃a hU,l=a::hU∧f a=b∧hU.map f=cM:=by
 cases l with
 |nil=>cases h
 |cons a hU=>simp only[List.map_cons,List.cons.injEq]at h;exact⟨a,hU,rfl,h.1,h.2⟩
theorem Cz(i:bF)(l:List aF)(h:l.map aF.r=eM i):ll i (oG i l)=l:=by
 cases i<;>simp only[eM]at h<;>(repeat (obtain⟨_,_,rfl,ag,h⟩:=ln h;rw[←Cy ag];clear ag))<;>(cases l5 h)<;>rfl
def zcD:List Nat:=[183,117]
end Go.aK
