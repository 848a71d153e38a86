/- Test: the data as Lean structures, codes of types, typed values, immutable values. Conditions: none. -/
import Derived.WalkKit
import Derived.KernelRfl
namespace Go.fb
open Go
structure dz where
 kind:Int
 n:Int
 s:ByteArray
structure mv where
 dev:Int
 m3:ByteArray
 attr:ByteArray
structure oA where
 dev:Int
 m3:ByteArray
 name:ByteArray
structure mA where
 kind:Int
 attr:ByteArray
 n:Int
structure Attr where
 name:ByteArray
 kind:Int
 min:Int
 max:Int
 enum:List ByteArray
 zdu:Bool
 safety:Bool
structure Command where
 name:ByteArray
 param:Attr
 zdv:List mA
structure kz where
 name:ByteArray
 attrs:List Attr
 commands:List Command
 events:List ByteArray
structure kA where
 id:Int
 zdw:Int
 zdx:Int
 zdy:Bool
 zdz:Int
 room:ByteArray
 L8:List ByteArray
structure Home where
 L8:List kz
 zdA:List kA
structure Change where
 at_:Int
 offset:Int
structure oy where
 offset:Int
 changes:List Change
structure iU where
 kind:Int
 n:Int
 m:Int
 name:ByteArray
 value:dz
 key:mv
 kids:List iU
structure bk where
 key:mv
 value:dz
 version:Int
structure mw where
 name:ByteArray
 zdB:Int
 when:iU
 zdC:Bool
 force:List bk
 zdD:List bk
structure Config where
 home:Home
 L9:List ByteArray
 zdE:List mw
 zdF:oy
 key:Int
structure cG where
 from_:Int
 mr:Int
structure bC where
 name:ByteArray
 role:Int
 h8:List cG
 k0:List ByteArray
 home:Bool
structure oz where
 top:Int
 bits:Int
structure cm where
 hj:ByteArray
 h9:oz
structure bS where
 dev:Int
 gU:Int
 version:Int
 reported:List bk
 kt:List bk
 want:Int
 done:Int
 mq:Int
 heard:Int
structure ch where
 name:ByteArray
 items:List bk
structure my where
 kind:Int
 key:mv
 event:oA
 name:ByteArray
 n:Int
 m:Int
structure mz where
 kind:Int
 key:mv
 name:ByteArray
 expr:iU
structure ph where
 name:ByteArray
 priority:Int
 on:List my
 zdG:iU
 zdH:List mz
structure pf where
 home:Home
 L9:List ByteArray
 eB:List ByteArray
structure pg where
 kind:Int
 text:ByteArray
 at_:Int
structure bG where
 gU:Int
 mode:ByteArray
 fY:List bS
 ju:List ByteArray
 members:List bC
 fg:List cm
 source:ByteArray
 eB:List ch
 next:Int
 j5:List Int
structure Rd where
 rest:ByteArray
 err:Int
 made:Bool
structure bm where
 s:ByteArray
 at_:Int
 bad:Int
 made:Bool
end Go.fb
namespace Go.aK
open Go Go.fb
inductive bX where
 |str
 |i64
 |bool
 |u8
 |dz
 |mv
 |oA
 |mA
 |Attr
 |Command
 |kz
 |kA
 |Home
 |Change
 |oy
 |iU
 |bk
 |mw
 |Config
 |cG
 |bC
 |oz
 |cm
 |bS
 |ch
 |my
 |mz
 |ph
 |pf
 |pg
 |bG
 |Rd
 |bm
 deriving DecidableEq
def zdI:List bX:=[.str,.i64,.bool,.u8,.dz,.mv,.oA,.mA,.Attr,.Command,.kz,.kA,.Home,.Change,.oy,.iU,.bk,.mw,.Config,.cG,.bC,.oz,.cm,.bS,.ch,.my,.mz,.ph,.pf,.pg,.bG,.Rd,.bm]
@[reducible] def hg:bX→Type
 | .str=>ByteArray
 | .i64=>Int
 | .bool=>Bool
 | .u8=>Int
 | .dz=>dz
 | .mv=>mv
 | .oA=>oA
 | .mA=>mA
 | .Attr=>Attr
 | .Command=>Command
 | .kz=>kz
 | .kA=>kA
 | .Home=>Home
 | .Change=>Change
 | .oy=>oy
 | .iU=>iU
 | .bk=>bk
 | .mw=>mw
 | .Config=>Config
 | .cG=>cG
 | .bC=>bC
 | .oz=>oz
 | .cm=>cm
 | .bS=>bS
 | .ch=>ch
 | .my=>my
 | .mz=>mz
 | .ph=>ph
 | .pf=>pf
 | .pg=>pg
 | .bG=>bG
 | .Rd=>Rd
 | .bm=>bm
def bj:(i:bX)→hg i
 | .str=>⟨#[]⟩
 | .i64=>0
 | .bool=>false
 | .u8=>0
 | .dz=>⟨0,0,⟨#[]⟩⟩
 | .mv=>⟨0,⟨#[]⟩,⟨#[]⟩⟩
 | .oA=>⟨0,⟨#[]⟩,⟨#[]⟩⟩
 | .mA=>⟨0,⟨#[]⟩,0⟩
 | .Attr=>⟨⟨#[]⟩,0,0,0,[],false,false⟩
 | .Command=>⟨⟨#[]⟩,⟨⟨#[]⟩,0,0,0,[],false,false⟩,[]⟩
 | .kz=>⟨⟨#[]⟩,[],[],[]⟩
 | .kA=>⟨0,0,0,false,0,⟨#[]⟩,[]⟩
 | .Home=>⟨[],[]⟩
 | .Change=>⟨0,0⟩
 | .oy=>⟨0,[]⟩
 | .iU=>⟨0,0,0,⟨#[]⟩,⟨0,0,⟨#[]⟩⟩,⟨0,⟨#[]⟩,⟨#[]⟩⟩,[]⟩
 | .bk=>⟨⟨0,⟨#[]⟩,⟨#[]⟩⟩,⟨0,0,⟨#[]⟩⟩,0⟩
 | .mw=>⟨⟨#[]⟩,0,⟨0,0,0,⟨#[]⟩,⟨0,0,⟨#[]⟩⟩,⟨0,⟨#[]⟩,⟨#[]⟩⟩,[]⟩,false,[],[]⟩
 | .Config=>⟨⟨[],[]⟩,[],[],⟨0,[]⟩,0⟩
 | .cG=>⟨0,0⟩
 | .bC=>⟨⟨#[]⟩,0,[],[],false⟩
 | .oz=>⟨0,0⟩
 | .cm=>⟨⟨#[]⟩,⟨0,0⟩⟩
 | .bS=>⟨0,0,0,[],[],0,0,0,0⟩
 | .ch=>⟨⟨#[]⟩,[]⟩
 | .my=>⟨0,⟨0,⟨#[]⟩,⟨#[]⟩⟩,⟨0,⟨#[]⟩,⟨#[]⟩⟩,⟨#[]⟩,0,0⟩
 | .mz=>⟨0,⟨0,⟨#[]⟩,⟨#[]⟩⟩,⟨#[]⟩,⟨0,0,0,⟨#[]⟩,⟨0,0,⟨#[]⟩⟩,⟨0,⟨#[]⟩,⟨#[]⟩⟩,[]⟩⟩
 | .ph=>⟨⟨#[]⟩,0,[],⟨0,0,0,⟨#[]⟩,⟨0,0,⟨#[]⟩⟩,⟨0,⟨#[]⟩,⟨#[]⟩⟩,[]⟩,[]⟩
 | .pf=>⟨⟨[],[]⟩,[],[]⟩
 | .pg=>⟨0,⟨#[]⟩,0⟩
 | .bG=>⟨0,⟨#[]⟩,[],[],[],[],⟨#[]⟩,[],0,[]⟩
 | .Rd=>⟨⟨#[]⟩,0,false⟩
 | .bm=>⟨⟨#[]⟩,0,0,false⟩
inductive aX where
 |int (k:IntKind)
 |bool
 |str
 |li (c:bX)
 |st (c:bX)
 |Ck (x y:aX)
 |un
 |mp (k v:aX)
 deriving DecidableEq
@[reducible] def aX.den:aX→Type
 | .int _=>Int
 | .bool=>Bool
 | .str=>ByteArray
 | .li c=>List (hg c)
 | .st c=>hg c
 | .Ck x y=>x.den × y.den
 | .un=>Unit
 | .mp k v=>List (k.den × v.den)
def aX.gm:(r:aX)→r.den
 | .int _=>(0:Int)
 | .bool=>false
 | .str=>(⟨#[]⟩:ByteArray)
 | .li c=>([]:List (hg c))
 | .st c=>bj c
 | .Ck x y=>(x.gm,y.gm)
 | .un=>()
 | .mp k v=>([]:List (k.den × v.den))
structure aL where
 r:aX
 v:r.den
def aL.d:aL:=⟨.un,()⟩
def aL.aI(r:aX)(d:aL):r.den:=
 match decEq d.r r with
 | .isTrue h=>h ▸ d.v
 | .isFalse _=>r.gm
inductive aU where
 |v (x:Value)
 |ptr (cs:List aU)
 |aq (n:Nat) (es:List (List aU))
 |mp (agg:Bool) (ks:List Value) (vs:List (List aU))
 |li (i:bX) (l:List (hg i))
 |ei (t:TypeId) (agg:Bool) (cs:List aU)
def lv:(r:aX)→r.den→aU
 | .int k,n=>.v (.int k n)
 | .bool,b=>.v (.bool b)
 | .str,x=>.v (.string x)
 | .li c,l=>.li c l
 |_,_=>.v undef
def mC:(r:aX)→r.den→Value
 | .int k,n=>.int k n
 | .bool,b=>.bool b
 | .str,x=>.string x
 |_,_=>undef
def aX.agg:aX→Bool
 | .st _=>true
 |_=>false
end Go.aK
namespace Go.fb
open Go Go.aK
def dz.dC(x:dz):List aL:=[⟨.int .i64,x.kind⟩,⟨.int .i64,x.n⟩,⟨.str,x.s⟩]
def mv.dC(x:mv):List aL:=[⟨.int .i64,x.dev⟩,⟨.str,x.m3⟩,⟨.str,x.attr⟩]
def oA.dC(x:oA):List aL:=[⟨.int .i64,x.dev⟩,⟨.str,x.m3⟩,⟨.str,x.name⟩]
def mA.dC(x:mA):List aL:=[⟨.int .i64,x.kind⟩,⟨.str,x.attr⟩,⟨.int .i64,x.n⟩]
def Attr.dC(x:Attr):List aL:=[⟨.str,x.name⟩,⟨.int .i64,x.kind⟩,⟨.int .i64,x.min⟩,⟨.int .i64,x.max⟩,⟨.li .str,x.enum⟩,⟨.bool,x.zdu⟩,⟨.bool,x.safety⟩]
def Command.dC(x:Command):List aL:=⟨.str,x.name⟩::(x.param.dC++[⟨.li .mA,x.zdv⟩])
def kz.dC(x:kz):List aL:=[⟨.str,x.name⟩,⟨.li .Attr,x.attrs⟩,⟨.li .Command,x.commands⟩,⟨.li .str,x.events⟩]
def kA.dC(x:kA):List aL:=[⟨.int .i64,x.id⟩,⟨.int .u64,x.zdw⟩,⟨.int .i64,x.zdx⟩,⟨.bool,x.zdy⟩,⟨.int .i64,x.zdz⟩,⟨.str,x.room⟩,⟨.li .str,x.L8⟩]
def Home.dC(x:Home):List aL:=[⟨.li .kz,x.L8⟩,⟨.li .kA,x.zdA⟩]
def Change.dC(x:Change):List aL:=[⟨.int .i64,x.at_⟩,⟨.int .i64,x.offset⟩]
def oy.dC(x:oy):List aL:=[⟨.int .i64,x.offset⟩,⟨.li .Change,x.changes⟩]
def iU.dC(x:iU):List aL:=⟨.int .i64,x.kind⟩::⟨.int .i64,x.n⟩::⟨.int .i64,x.m⟩::⟨.str,x.name⟩::(x.value.dC++(x.key.dC++[⟨.li .iU,x.kids⟩]))
def bk.dC(x:bk):List aL:=(x.key.dC++(x.value.dC++[⟨.int .i64,x.version⟩]))
def mw.dC(x:mw):List aL:=⟨.str,x.name⟩::⟨.int .i64,x.zdB⟩::(x.when.dC++[⟨.bool,x.zdC⟩,⟨.li .bk,x.force⟩,⟨.li .bk,x.zdD⟩])
def Config.dC(x:Config):List aL:=(x.home.dC++⟨.li .str,x.L9⟩::⟨.li .mw,x.zdE⟩::(x.zdF.dC++[⟨.int .u64,x.key⟩]))
def cG.dC(x:cG):List aL:=[⟨.int .i64,x.from_⟩,⟨.int .i64,x.mr⟩]
def bC.dC(x:bC):List aL:=[⟨.str,x.name⟩,⟨.int .i64,x.role⟩,⟨.li .cG,x.h8⟩,⟨.li .str,x.k0⟩,⟨.bool,x.home⟩]
def oz.dC(x:oz):List aL:=[⟨.int .i64,x.top⟩,⟨.int .u64,x.bits⟩]
def cm.dC(x:cm):List aL:=⟨.str,x.hj⟩::x.h9.dC
def bS.dC(x:bS):List aL:=[⟨.int .i64,x.dev⟩,⟨.int .i64,x.gU⟩,⟨.int .i64,x.version⟩,⟨.li .bk,x.reported⟩,⟨.li .bk,x.kt⟩,⟨.int .i64,x.want⟩,⟨.int .i64,x.done⟩,⟨.int .i64,x.mq⟩,⟨.int .i64,x.heard⟩]
def ch.dC(x:ch):List aL:=[⟨.str,x.name⟩,⟨.li .bk,x.items⟩]
def my.dC(x:my):List aL:=⟨.int .i64,x.kind⟩::(x.key.dC++(x.event.dC++[⟨.str,x.name⟩,⟨.int .i64,x.n⟩,⟨.int .i64,x.m⟩]))
def mz.dC(x:mz):List aL:=⟨.int .i64,x.kind⟩::(x.key.dC++⟨.str,x.name⟩::x.expr.dC)
def ph.dC(x:ph):List aL:=⟨.str,x.name⟩::⟨.int .i64,x.priority⟩::⟨.li .my,x.on⟩::(x.zdG.dC++[⟨.li .mz,x.zdH⟩])
def pf.dC(x:pf):List aL:=(x.home.dC++[⟨.li .str,x.L9⟩,⟨.li .str,x.eB⟩])
def pg.dC(x:pg):List aL:=[⟨.int .i64,x.kind⟩,⟨.str,x.text⟩,⟨.int .i64,x.at_⟩]
def bG.dC(x:bG):List aL:=[⟨.int .i64,x.gU⟩,⟨.str,x.mode⟩,⟨.li .bS,x.fY⟩,⟨.li .str,x.ju⟩,⟨.li .bC,x.members⟩,⟨.li .cm,x.fg⟩,⟨.str,x.source⟩,⟨.li .ch,x.eB⟩,⟨.int .i64,x.next⟩,⟨.li .i64,x.j5⟩]
def Rd.dC(x:Rd):List aL:=[⟨.str,x.rest⟩,⟨.int .i64,x.err⟩,⟨.bool,x.made⟩]
def bm.dC(x:bm):List aL:=[⟨.str,x.s⟩,⟨.int .i64,x.at_⟩,⟨.int .i64,x.bad⟩,⟨.bool,x.made⟩]
end Go.fb
namespace Go.aK
open Go Go.fb
def hh:(i:bX)→hg i→List aL
 | .str,x=>[⟨.str,x⟩]
 | .i64,x=>[⟨.int .i64,x⟩]
 | .bool,x=>[⟨.bool,x⟩]
 | .u8,x=>[⟨.int .u8,x⟩]
 | .dz,x=>x.dC
 | .mv,x=>x.dC
 | .oA,x=>x.dC
 | .mA,x=>x.dC
 | .Attr,x=>x.dC
 | .Command,x=>x.dC
 | .kz,x=>x.dC
 | .kA,x=>x.dC
 | .Home,x=>x.dC
 | .Change,x=>x.dC
 | .oy,x=>x.dC
 | .iU,x=>x.dC
 | .bk,x=>x.dC
 | .mw,x=>x.dC
 | .Config,x=>x.dC
 | .cG,x=>x.dC
 | .bC,x=>x.dC
 | .oz,x=>x.dC
 | .cm,x=>x.dC
 | .bS,x=>x.dC
 | .ch,x=>x.dC
 | .my,x=>x.dC
 | .mz,x=>x.dC
 | .ph,x=>x.dC
 | .pf,x=>x.dC
 | .pg,x=>x.dC
 | .bG,x=>x.dC
 | .Rd,x=>x.dC
 | .bm,x=>x.dC
def jR:(r:aX)→r.den→List aU
 | .st c,x=>(hh c x).map fun d=>lv d.r d.v
 |r,x=>[lv r x]
def gr:(r:aX)→r.den→aU
 | .mp k v,l=>.mp v.agg (l.map fun p=>mC k p.1) (l.map fun p=>jR v p.2)
 |r,x=>lv r x
def aL.ad(d:aL):aU:=gr d.r d.v
def ft:bX→List aX
 | .str=>[.str]
 | .i64=>[.int .i64]
 | .bool=>[.bool]
 | .u8=>[.int .u8]
 | .dz=>[.int .i64,.int .i64,.str]
 | .mv=>[.int .i64,.str,.str]
 | .oA=>[.int .i64,.str,.str]
 | .mA=>[.int .i64,.str,.int .i64]
 | .Attr=>[.str,.int .i64,.int .i64,.int .i64,.li .str,.bool,.bool]
 | .Command=>[.str,.str,.int .i64,.int .i64,.int .i64,.li .str,.bool,.bool,.li .mA]
 | .kz=>[.str,.li .Attr,.li .Command,.li .str]
 | .kA=>[.int .i64,.int .u64,.int .i64,.bool,.int .i64,.str,.li .str]
 | .Home=>[.li .kz,.li .kA]
 | .Change=>[.int .i64,.int .i64]
 | .oy=>[.int .i64,.li .Change]
 | .iU=>[.int .i64,.int .i64,.int .i64,.str,.int .i64,.int .i64,.str,.int .i64,.str,.str,.li .iU]
 | .bk=>[.int .i64,.str,.str,.int .i64,.int .i64,.str,.int .i64]
 | .mw=>[.str,.int .i64,.int .i64,.int .i64,.int .i64,.str,.int .i64,.int .i64,.str,.int .i64,.str,.str,.li .iU,.bool,.li .bk,.li .bk]
 | .Config=>[.li .kz,.li .kA,.li .str,.li .mw,.int .i64,.li .Change,.int .u64]
 | .cG=>[.int .i64,.int .i64]
 | .bC=>[.str,.int .i64,.li .cG,.li .str,.bool]
 | .oz=>[.int .i64,.int .u64]
 | .cm=>[.str,.int .i64,.int .u64]
 | .bS=>[.int .i64,.int .i64,.int .i64,.li .bk,.li .bk,.int .i64,.int .i64,.int .i64,.int .i64]
 | .ch=>[.str,.li .bk]
 | .my=>[.int .i64,.int .i64,.str,.str,.int .i64,.str,.str,.str,.int .i64,.int .i64]
 | .mz=>[.int .i64,.int .i64,.str,.str,.str,.int .i64,.int .i64,.int .i64,.str,.int .i64,.int .i64,.str,.int .i64,.str,.str,.li .iU]
 | .ph=>[.str,.int .i64,.li .my,.int .i64,.int .i64,.int .i64,.str,.int .i64,.int .i64,.str,.int .i64,.str,.str,.li .iU,.li .mz]
 | .pf=>[.li .kz,.li .kA,.li .str,.li .str]
 | .pg=>[.int .i64,.str,.int .i64]
 | .bG=>[.int .i64,.str,.li .bS,.li .str,.li .bC,.li .cm,.str,.li .ch,.int .i64,.li .i64]
 | .Rd=>[.str,.int .i64,.bool]
 | .bm=>[.str,.int .i64,.int .i64,.bool]
def qG:(i:bX)→List aL→hg i
 | .str,l=>(l.getD 0 aL.d).aI (.str)
 | .i64,l=>(l.getD 0 aL.d).aI (.int .i64)
 | .bool,l=>(l.getD 0 aL.d).aI (.bool)
 | .u8,l=>(l.getD 0 aL.d).aI (.int .u8)
 | .dz,l=>⟨(l.getD 0 aL.d).aI (.int .i64),(l.getD 1 aL.d).aI (.int .i64),(l.getD 2 aL.d).aI (.str)⟩
 | .mv,l=>⟨(l.getD 0 aL.d).aI (.int .i64),(l.getD 1 aL.d).aI (.str),(l.getD 2 aL.d).aI (.str)⟩
 | .oA,l=>⟨(l.getD 0 aL.d).aI (.int .i64),(l.getD 1 aL.d).aI (.str),(l.getD 2 aL.d).aI (.str)⟩
 | .mA,l=>⟨(l.getD 0 aL.d).aI (.int .i64),(l.getD 1 aL.d).aI (.str),(l.getD 2 aL.d).aI (.int .i64)⟩
 | .Attr,l=>⟨(l.getD 0 aL.d).aI (.str),(l.getD 1 aL.d).aI (.int .i64),(l.getD 2 aL.d).aI (.int .i64),(l.getD 3 aL.d).aI (.int .i64),(l.getD 4 aL.d).aI (.li .str),(l.getD 5 aL.d).aI (.bool),(l.getD 6 aL.d).aI (.bool)⟩
 | .Command,l=>⟨(l.getD 0 aL.d).aI (.str),⟨(l.getD 1 aL.d).aI (.str),(l.getD 2 aL.d).aI (.int .i64),(l.getD 3 aL.d).aI (.int .i64),(l.getD 4 aL.d).aI (.int .i64),(l.getD 5 aL.d).aI (.li .str),(l.getD 6 aL.d).aI (.bool),(l.getD 7 aL.d).aI (.bool)⟩,(l.getD 8 aL.d).aI (.li .mA)⟩
 | .kz,l=>⟨(l.getD 0 aL.d).aI (.str),(l.getD 1 aL.d).aI (.li .Attr),(l.getD 2 aL.d).aI (.li .Command),(l.getD 3 aL.d).aI (.li .str)⟩
 | .kA,l=>⟨(l.getD 0 aL.d).aI (.int .i64),(l.getD 1 aL.d).aI (.int .u64),(l.getD 2 aL.d).aI (.int .i64),(l.getD 3 aL.d).aI (.bool),(l.getD 4 aL.d).aI (.int .i64),(l.getD 5 aL.d).aI (.str),(l.getD 6 aL.d).aI (.li .str)⟩
 | .Home,l=>⟨(l.getD 0 aL.d).aI (.li .kz),(l.getD 1 aL.d).aI (.li .kA)⟩
 | .Change,l=>⟨(l.getD 0 aL.d).aI (.int .i64),(l.getD 1 aL.d).aI (.int .i64)⟩
 | .oy,l=>⟨(l.getD 0 aL.d).aI (.int .i64),(l.getD 1 aL.d).aI (.li .Change)⟩
 | .iU,l=>⟨(l.getD 0 aL.d).aI (.int .i64),(l.getD 1 aL.d).aI (.int .i64),(l.getD 2 aL.d).aI (.int .i64),(l.getD 3 aL.d).aI (.str),⟨(l.getD 4 aL.d).aI (.int .i64),(l.getD 5 aL.d).aI (.int .i64),(l.getD 6 aL.d).aI (.str)⟩,⟨(l.getD 7 aL.d).aI (.int .i64),(l.getD 8 aL.d).aI (.str),(l.getD 9 aL.d).aI (.str)⟩,(l.getD 10 aL.d).aI (.li .iU)⟩
 | .bk,l=>⟨⟨(l.getD 0 aL.d).aI (.int .i64),(l.getD 1 aL.d).aI (.str),(l.getD 2 aL.d).aI (.str)⟩,⟨(l.getD 3 aL.d).aI (.int .i64),(l.getD 4 aL.d).aI (.int .i64),(l.getD 5 aL.d).aI (.str)⟩,(l.getD 6 aL.d).aI (.int .i64)⟩
 | .mw,l=>⟨(l.getD 0 aL.d).aI (.str),(l.getD 1 aL.d).aI (.int .i64),⟨(l.getD 2 aL.d).aI (.int .i64),(l.getD 3 aL.d).aI (.int .i64),(l.getD 4 aL.d).aI (.int .i64),(l.getD 5 aL.d).aI (.str),⟨(l.getD 6 aL.d).aI (.int .i64),(l.getD 7 aL.d).aI (.int .i64),(l.getD 8 aL.d).aI (.str)⟩,⟨(l.getD 9 aL.d).aI (.int .i64),(l.getD 10 aL.d).aI (.str),(l.getD 11 aL.d).aI (.str)⟩,(l.getD 12 aL.d).aI (.li .iU)⟩,(l.getD 13 aL.d).aI (.bool),(l.getD 14 aL.d).aI (.li .bk),(l.getD 15 aL.d).aI (.li .bk)⟩
 | .Config,l=>⟨⟨(l.getD 0 aL.d).aI (.li .kz),(l.getD 1 aL.d).aI (.li .kA)⟩,(l.getD 2 aL.d).aI (.li .str),(l.getD 3 aL.d).aI (.li .mw),⟨(l.getD 4 aL.d).aI (.int .i64),(l.getD 5 aL.d).aI (.li .Change)⟩,(l.getD 6 aL.d).aI (.int .u64)⟩
 | .cG,l=>⟨(l.getD 0 aL.d).aI (.int .i64),(l.getD 1 aL.d).aI (.int .i64)⟩
 | .bC,l=>⟨(l.getD 0 aL.d).aI (.str),(l.getD 1 aL.d).aI (.int .i64),(l.getD 2 aL.d).aI (.li .cG),(l.getD 3 aL.d).aI (.li .str),(l.getD 4 aL.d).aI (.bool)⟩
 | .oz,l=>⟨(l.getD 0 aL.d).aI (.int .i64),(l.getD 1 aL.d).aI (.int .u64)⟩
 | .cm,l=>⟨(l.getD 0 aL.d).aI (.str),⟨(l.getD 1 aL.d).aI (.int .i64),(l.getD 2 aL.d).aI (.int .u64)⟩⟩
 | .bS,l=>⟨(l.getD 0 aL.d).aI (.int .i64),(l.getD 1 aL.d).aI (.int .i64),(l.getD 2 aL.d).aI (.int .i64),(l.getD 3 aL.d).aI (.li .bk),(l.getD 4 aL.d).aI (.li .bk),(l.getD 5 aL.d).aI (.int .i64),(l.getD 6 aL.d).aI (.int .i64),(l.getD 7 aL.d).aI (.int .i64),(l.getD 8 aL.d).aI (.int .i64)⟩
 | .ch,l=>⟨(l.getD 0 aL.d).aI (.str),(l.getD 1 aL.d).aI (.li .bk)⟩
 | .my,l=>⟨(l.getD 0 aL.d).aI (.int .i64),⟨(l.getD 1 aL.d).aI (.int .i64),(l.getD 2 aL.d).aI (.str),(l.getD 3 aL.d).aI (.str)⟩,⟨(l.getD 4 aL.d).aI (.int .i64),(l.getD 5 aL.d).aI (.str),(l.getD 6 aL.d).aI (.str)⟩,(l.getD 7 aL.d).aI (.str),(l.getD 8 aL.d).aI (.int .i64),(l.getD 9 aL.d).aI (.int .i64)⟩
 | .mz,l=>⟨(l.getD 0 aL.d).aI (.int .i64),⟨(l.getD 1 aL.d).aI (.int .i64),(l.getD 2 aL.d).aI (.str),(l.getD 3 aL.d).aI (.str)⟩,(l.getD 4 aL.d).aI (.str),⟨(l.getD 5 aL.d).aI (.int .i64),(l.getD 6 aL.d).aI (.int .i64),(l.getD 7 aL.d).aI (.int .i64),(l.getD 8 aL.d).aI (.str),⟨(l.getD 9 aL.d).aI (.int .i64),(l.getD 10 aL.d).aI (.int .i64),(l.getD 11 aL.d).aI (.str)⟩,⟨(l.getD 12 aL.d).aI (.int .i64),(l.getD 13 aL.d).aI (.str),(l.getD 14 aL.d).aI (.str)⟩,(l.getD 15 aL.d).aI (.li .iU)⟩⟩
 | .ph,l=>⟨(l.getD 0 aL.d).aI (.str),(l.getD 1 aL.d).aI (.int .i64),(l.getD 2 aL.d).aI (.li .my),⟨(l.getD 3 aL.d).aI (.int .i64),(l.getD 4 aL.d).aI (.int .i64),(l.getD 5 aL.d).aI (.int .i64),(l.getD 6 aL.d).aI (.str),⟨(l.getD 7 aL.d).aI (.int .i64),(l.getD 8 aL.d).aI (.int .i64),(l.getD 9 aL.d).aI (.str)⟩,⟨(l.getD 10 aL.d).aI (.int .i64),(l.getD 11 aL.d).aI (.str),(l.getD 12 aL.d).aI (.str)⟩,(l.getD 13 aL.d).aI (.li .iU)⟩,(l.getD 14 aL.d).aI (.li .mz)⟩
 | .pf,l=>⟨⟨(l.getD 0 aL.d).aI (.li .kz),(l.getD 1 aL.d).aI (.li .kA)⟩,(l.getD 2 aL.d).aI (.li .str),(l.getD 3 aL.d).aI (.li .str)⟩
 | .pg,l=>⟨(l.getD 0 aL.d).aI (.int .i64),(l.getD 1 aL.d).aI (.str),(l.getD 2 aL.d).aI (.int .i64)⟩
 | .bG,l=>⟨(l.getD 0 aL.d).aI (.int .i64),(l.getD 1 aL.d).aI (.str),(l.getD 2 aL.d).aI (.li .bS),(l.getD 3 aL.d).aI (.li .str),(l.getD 4 aL.d).aI (.li .bC),(l.getD 5 aL.d).aI (.li .cm),(l.getD 6 aL.d).aI (.str),(l.getD 7 aL.d).aI (.li .ch),(l.getD 8 aL.d).aI (.int .i64),(l.getD 9 aL.d).aI (.li .i64)⟩
 | .Rd,l=>⟨(l.getD 0 aL.d).aI (.str),(l.getD 1 aL.d).aI (.int .i64),(l.getD 2 aL.d).aI (.bool)⟩
 | .bm,l=>⟨(l.getD 0 aL.d).aI (.str),(l.getD 1 aL.d).aI (.int .i64),(l.getD 2 aL.d).aI (.int .i64),(l.getD 3 aL.d).aI (.bool)⟩
def df(i:bX)(x:hg i):List aU:=(hh i x).map aL.ad
def du:bX→Nat
 | .str=>1
 | .i64=>1
 | .bool=>1
 | .u8=>1
 | .dz=>3
 | .mv=>3
 | .oA=>3
 | .mA=>3
 | .Attr=>7
 | .Command=>9
 | .kz=>4
 | .kA=>7
 | .Home=>2
 | .Change=>2
 | .oy=>2
 | .iU=>11
 | .bk=>7
 | .mw=>16
 | .Config=>7
 | .cG=>2
 | .bC=>5
 | .oz=>2
 | .cm=>3
 | .bS=>9
 | .ch=>2
 | .my=>10
 | .mz=>16
 | .ph=>15
 | .pf=>4
 | .pg=>3
 | .bG=>10
 | .Rd=>3
 | .bm=>4
theorem Ma(i:bX)(x:hg i):(hh i x).map aL.r=ft i:=by cases i<;>rfl
theorem Gc(i:bX)(x:hg i):(df i x).length=du i:=by cases i<;>rfl
theorem Cl(d:aL):(⟨d.r,d.aI d.r⟩:aL)=d:=by
 unfold aL.aI
 split
 ·rfl
 ·rename_i h _;exact absurd rfl h
theorem Gd{d:aL}{r:aX}(h:d.r=r):(⟨r,d.aI r⟩:aL)=d:=by subst h;exact Cl d
theorem nO{α β:Type}{f:α→β}{l:List α}(h:l.map f=[]):l=[]:=by cases l<;>simp_all
theorem m7{α β:Type}{f:α→β}{l:List α}{b:β}{cE:List β}(h:l.map f=b::cE): ∃a er,l=a::er∧f a=b∧er.map f=cE:=by
 cases l with
 |nil=>cases h
 |cons a er=>simp only[List.map_cons,List.cons.injEq]at h;exact⟨a,er,rfl,h.1,h.2⟩
theorem Ge(i:bX)(l:List aL)(h:l.map aL.r=ft i):hh i (qG i l)=l:=by
 cases i<;>simp only[ft]at h<;>(repeat (obtain⟨_,_,rfl,ah,h⟩:=m7 h;rw[←Gd ah];clear ah))<;>(cases nO h)<;>rfl
def zdJ:List Nat:=[]
end Go.aK
