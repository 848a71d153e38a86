/- Test: the data as Lean structures, codes of types, typed values, immutable values. Conditions: none. -/
import Derived.WalkKit
import Derived.KernelRfl
namespace Go.eL
open Go
structure cf where
 kind:Int
 n:Int
 s:ByteArray
structure di where
 dev:Int
 dm:ByteArray
 attr:ByteArray
structure mX where
 dev:Int
 dm:ByteArray
 name:ByteArray
structure bu where
 kind:Int
 dz:Int
 key:di
 name:ByteArray
 value:cf
 text:ByteArray
structure iu where
 token:ByteArray
 request:bu
structure nO where
 kind:Int
 n:Int
 m:Int
 key:di
 value:cf
 event:mX
 asked:iu
structure cP where
 kind:Int
 attr:ByteArray
 n:Int
structure Attr where
 name:ByteArray
 kind:Int
 min:Int
 max:Int
 enum:List ByteArray
 fC:Bool
 safety:Bool
structure Command where
 name:ByteArray
 param:Attr
 gi:List cP
structure aK where
 name:ByteArray
 attrs:List Attr
 commands:List Command
 events:List ByteArray
structure bw where
 id:Int
 hh:Int
 oM:Int
 oN:Bool
 k0:Int
 room:ByteArray
 bq:List ByteArray
structure Home where
 bq:List aK
 bm:List bw
structure Change where
 at_:Int
 offset:Int
structure mY where
 offset:Int
 changes:List Change
structure jK where
 kind:Int
 n:Int
 m:Int
 name:ByteArray
 value:cf
 key:di
 kids:List jK
structure jj where
 key:di
 value:cf
 version:Int
structure j0 where
 name:ByteArray
 zd3:Int
 when:jK
 zd4:Bool
 force:List jj
 zd5:List jj
structure Config where
 home:Home
 zd6:List ByteArray
 zd7:List j0
 zd8:mY
 key:Int
structure eS where
 from_:Int
 wM:Int
structure cx where
 name:ByteArray
 role:Int
 nL:List eS
 fZ:List ByteArray
 home:Bool
structure fm where
 top:Int
 bits:Int
structure cI where
 e9:ByteArray
 uA:fm
structure mZ where
 kind:Int
 name:ByteArray
 priority:Int
structure nP where
 key:di
 value:cf
 zd9:mZ
 order:Int
structure eM where
 e9:ByteArray
 id:Int
 oT:Int
 oU:Int
structure Case where
 c:Config
 members:List cx
 zea:List cI
 zeb:List Int
 a:iu
 now:Int
 oQ:Int
structure Rd where
 rest:ByteArray
 err:Int
 made:Bool
structure cp where
 s:ByteArray
 at_:Int
 bad:Int
 made:Bool
end Go.eL
namespace Go.aL
open Go Go.eL
inductive bL where
 |str
 |i64
 |bool
 |u8
 |cf
 |di
 |mX
 |bu
 |iu
 |nO
 |cP
 |Attr
 |Command
 |aK
 |bw
 |Home
 |Change
 |mY
 |jK
 |jj
 |j0
 |Config
 |eS
 |cx
 |fm
 |cI
 |mZ
 |nP
 |eM
 |Case
 |Rd
 |cp
 deriving DecidableEq
def zec:List bL:=[.str,.i64,.bool,.u8,.cf,.di,.mX,.bu,.iu,.nO,.cP,.Attr,.Command,.aK,.bw,.Home,.Change,.mY,.jK,.jj,.j0,.Config,.eS,.cx,.fm,.cI,.mZ,.nP,.eM,.Case,.Rd,.cp]
@[reducible] def fO:bL→Type
 | .str=>ByteArray
 | .i64=>Int
 | .bool=>Bool
 | .u8=>Int
 | .cf=>cf
 | .di=>di
 | .mX=>mX
 | .bu=>bu
 | .iu=>iu
 | .nO=>nO
 | .cP=>cP
 | .Attr=>Attr
 | .Command=>Command
 | .aK=>aK
 | .bw=>bw
 | .Home=>Home
 | .Change=>Change
 | .mY=>mY
 | .jK=>jK
 | .jj=>jj
 | .j0=>j0
 | .Config=>Config
 | .eS=>eS
 | .cx=>cx
 | .fm=>fm
 | .cI=>cI
 | .mZ=>mZ
 | .nP=>nP
 | .eM=>eM
 | .Case=>Case
 | .Rd=>Rd
 | .cp=>cp
def aA:(i:bL)→fO i
 | .str=>⟨#[]⟩
 | .i64=>0
 | .bool=>false
 | .u8=>0
 | .cf=>⟨0,0,⟨#[]⟩⟩
 | .di=>⟨0,⟨#[]⟩,⟨#[]⟩⟩
 | .mX=>⟨0,⟨#[]⟩,⟨#[]⟩⟩
 | .bu=>⟨0,0,⟨0,⟨#[]⟩,⟨#[]⟩⟩,⟨#[]⟩,⟨0,0,⟨#[]⟩⟩,⟨#[]⟩⟩
 | .iu=>⟨⟨#[]⟩,⟨0,0,⟨0,⟨#[]⟩,⟨#[]⟩⟩,⟨#[]⟩,⟨0,0,⟨#[]⟩⟩,⟨#[]⟩⟩⟩
 | .nO=>⟨0,0,0,⟨0,⟨#[]⟩,⟨#[]⟩⟩,⟨0,0,⟨#[]⟩⟩,⟨0,⟨#[]⟩,⟨#[]⟩⟩,⟨⟨#[]⟩,⟨0,0,⟨0,⟨#[]⟩,⟨#[]⟩⟩,⟨#[]⟩,⟨0,0,⟨#[]⟩⟩,⟨#[]⟩⟩⟩⟩
 | .cP=>⟨0,⟨#[]⟩,0⟩
 | .Attr=>⟨⟨#[]⟩,0,0,0,[],false,false⟩
 | .Command=>⟨⟨#[]⟩,⟨⟨#[]⟩,0,0,0,[],false,false⟩,[]⟩
 | .aK=>⟨⟨#[]⟩,[],[],[]⟩
 | .bw=>⟨0,0,0,false,0,⟨#[]⟩,[]⟩
 | .Home=>⟨[],[]⟩
 | .Change=>⟨0,0⟩
 | .mY=>⟨0,[]⟩
 | .jK=>⟨0,0,0,⟨#[]⟩,⟨0,0,⟨#[]⟩⟩,⟨0,⟨#[]⟩,⟨#[]⟩⟩,[]⟩
 | .jj=>⟨⟨0,⟨#[]⟩,⟨#[]⟩⟩,⟨0,0,⟨#[]⟩⟩,0⟩
 | .j0=>⟨⟨#[]⟩,0,⟨0,0,0,⟨#[]⟩,⟨0,0,⟨#[]⟩⟩,⟨0,⟨#[]⟩,⟨#[]⟩⟩,[]⟩,false,[],[]⟩
 | .Config=>⟨⟨[],[]⟩,[],[],⟨0,[]⟩,0⟩
 | .eS=>⟨0,0⟩
 | .cx=>⟨⟨#[]⟩,0,[],[],false⟩
 | .fm=>⟨0,0⟩
 | .cI=>⟨⟨#[]⟩,⟨0,0⟩⟩
 | .mZ=>⟨0,⟨#[]⟩,0⟩
 | .nP=>⟨⟨0,⟨#[]⟩,⟨#[]⟩⟩,⟨0,0,⟨#[]⟩⟩,⟨0,⟨#[]⟩,0⟩,0⟩
 | .eM=>⟨⟨#[]⟩,0,0,0⟩
 | .Case=>⟨⟨⟨[],[]⟩,[],[],⟨0,[]⟩,0⟩,[],[],[],⟨⟨#[]⟩,⟨0,0,⟨0,⟨#[]⟩,⟨#[]⟩⟩,⟨#[]⟩,⟨0,0,⟨#[]⟩⟩,⟨#[]⟩⟩⟩,0,0⟩
 | .Rd=>⟨⟨#[]⟩,0,false⟩
 | .cp=>⟨⟨#[]⟩,0,0,false⟩
inductive aV where
 |int (k:IntKind)
 |bool
 |str
 |li (c:bL)
 |st (c:bL)
 |Ah (x y:aV)
 |un
 |mp (k v:aV)
 deriving DecidableEq
@[reducible] def aV.den:aV→Type
 | .int _=>Int
 | .bool=>Bool
 | .str=>ByteArray
 | .li c=>List (fO c)
 | .st c=>fO c
 | .Ah x y=>x.den × y.den
 | .un=>Unit
 | .mp k v=>List (k.den × v.den)
def aV.fz:(r:aV)→r.den
 | .int _=>(0:Int)
 | .bool=>false
 | .str=>(⟨#[]⟩:ByteArray)
 | .li c=>([]:List (fO c))
 | .st c=>aA c
 | .Ah x y=>(x.fz,y.fz)
 | .un=>()
 | .mp k v=>([]:List (k.den × v.den))
structure aF where
 r:aV
 v:r.den
def aF.d:aF:=⟨.un,()⟩
def aF.aG(r:aV)(d:aF):r.den:=
 match decEq d.r r with
 | .isTrue h=>h ▸ d.v
 | .isFalse _=>r.fz
inductive a6 where
 |v (x:Value)
 |ptr (cs:List a6)
 |aO (n:Nat) (es:List (List a6))
 |mp (agg:Bool) (ks:List Value) (vs:List (List a6))
 |li (i:bL) (l:List (fO i))
 |et (t:TypeId) (agg:Bool) (cs:List a6)
def j9:(r:aV)→r.den→a6
 | .int k,n=>.v (.int k n)
 | .bool,b=>.v (.bool b)
 | .str,x=>.v (.string x)
 | .li c,l=>.li c l
 |_,_=>.v undef
def lj:(r:aV)→r.den→Value
 | .int k,n=>.int k n
 | .bool,b=>.bool b
 | .str,x=>.string x
 |_,_=>undef
def aV.agg:aV→Bool
 | .st _=>true
 |_=>false
end Go.aL
namespace Go.eL
open Go Go.aL
def cf.cV(x:cf):List aF:=[⟨.int .i64,x.kind⟩,⟨.int .i64,x.n⟩,⟨.str,x.s⟩]
def di.cV(x:di):List aF:=[⟨.int .i64,x.dev⟩,⟨.str,x.dm⟩,⟨.str,x.attr⟩]
def mX.cV(x:mX):List aF:=[⟨.int .i64,x.dev⟩,⟨.str,x.dm⟩,⟨.str,x.name⟩]
def bu.cV(x:bu):List aF:=⟨.int .i64,x.kind⟩::⟨.int .i64,x.dz⟩::(x.key.cV++⟨.str,x.name⟩::(x.value.cV++[⟨.str,x.text⟩]))
def iu.cV(x:iu):List aF:=⟨.str,x.token⟩::x.request.cV
def nO.cV(x:nO):List aF:=⟨.int .i64,x.kind⟩::⟨.int .i64,x.n⟩::⟨.int .i64,x.m⟩::(x.key.cV++(x.value.cV++(x.event.cV++x.asked.cV)))
def cP.cV(x:cP):List aF:=[⟨.int .i64,x.kind⟩,⟨.str,x.attr⟩,⟨.int .i64,x.n⟩]
def Attr.cV(x:Attr):List aF:=[⟨.str,x.name⟩,⟨.int .i64,x.kind⟩,⟨.int .i64,x.min⟩,⟨.int .i64,x.max⟩,⟨.li .str,x.enum⟩,⟨.bool,x.fC⟩,⟨.bool,x.safety⟩]
def Command.cV(x:Command):List aF:=⟨.str,x.name⟩::(x.param.cV++[⟨.li .cP,x.gi⟩])
def aK.cV(x:aK):List aF:=[⟨.str,x.name⟩,⟨.li .Attr,x.attrs⟩,⟨.li .Command,x.commands⟩,⟨.li .str,x.events⟩]
def bw.cV(x:bw):List aF:=[⟨.int .i64,x.id⟩,⟨.int .u64,x.hh⟩,⟨.int .i64,x.oM⟩,⟨.bool,x.oN⟩,⟨.int .i64,x.k0⟩,⟨.str,x.room⟩,⟨.li .str,x.bq⟩]
def Home.cV(x:Home):List aF:=[⟨.li .aK,x.bq⟩,⟨.li .bw,x.bm⟩]
def Change.cV(x:Change):List aF:=[⟨.int .i64,x.at_⟩,⟨.int .i64,x.offset⟩]
def mY.cV(x:mY):List aF:=[⟨.int .i64,x.offset⟩,⟨.li .Change,x.changes⟩]
def jK.cV(x:jK):List aF:=⟨.int .i64,x.kind⟩::⟨.int .i64,x.n⟩::⟨.int .i64,x.m⟩::⟨.str,x.name⟩::(x.value.cV++(x.key.cV++[⟨.li .jK,x.kids⟩]))
def jj.cV(x:jj):List aF:=(x.key.cV++(x.value.cV++[⟨.int .i64,x.version⟩]))
def j0.cV(x:j0):List aF:=⟨.str,x.name⟩::⟨.int .i64,x.zd3⟩::(x.when.cV++[⟨.bool,x.zd4⟩,⟨.li .jj,x.force⟩,⟨.li .jj,x.zd5⟩])
def Config.cV(x:Config):List aF:=(x.home.cV++⟨.li .str,x.zd6⟩::⟨.li .j0,x.zd7⟩::(x.zd8.cV++[⟨.int .u64,x.key⟩]))
def eS.cV(x:eS):List aF:=[⟨.int .i64,x.from_⟩,⟨.int .i64,x.wM⟩]
def cx.cV(x:cx):List aF:=[⟨.str,x.name⟩,⟨.int .i64,x.role⟩,⟨.li .eS,x.nL⟩,⟨.li .str,x.fZ⟩,⟨.bool,x.home⟩]
def fm.cV(x:fm):List aF:=[⟨.int .i64,x.top⟩,⟨.int .u64,x.bits⟩]
def cI.cV(x:cI):List aF:=⟨.str,x.e9⟩::x.uA.cV
def mZ.cV(x:mZ):List aF:=[⟨.int .i64,x.kind⟩,⟨.str,x.name⟩,⟨.int .i64,x.priority⟩]
def nP.cV(x:nP):List aF:=(x.key.cV++(x.value.cV++(x.zd9.cV++[⟨.int .i64,x.order⟩])))
def eM.cV(x:eM):List aF:=[⟨.str,x.e9⟩,⟨.int .i64,x.id⟩,⟨.int .i64,x.oT⟩,⟨.int .i64,x.oU⟩]
def Case.cV(x:Case):List aF:=(x.c.cV++⟨.li .cx,x.members⟩::⟨.li .cI,x.zea⟩::⟨.li .i64,x.zeb⟩::(x.a.cV++[⟨.int .i64,x.now⟩,⟨.int .i64,x.oQ⟩]))
def Rd.cV(x:Rd):List aF:=[⟨.str,x.rest⟩,⟨.int .i64,x.err⟩,⟨.bool,x.made⟩]
def cp.cV(x:cp):List aF:=[⟨.str,x.s⟩,⟨.int .i64,x.at_⟩,⟨.int .i64,x.bad⟩,⟨.bool,x.made⟩]
end Go.eL
namespace Go.aL
open Go Go.eL
def k2:(i:bL)→fO i→List aF
 | .str,x=>[⟨.str,x⟩]
 | .i64,x=>[⟨.int .i64,x⟩]
 | .bool,x=>[⟨.bool,x⟩]
 | .u8,x=>[⟨.int .u8,x⟩]
 | .cf,x=>x.cV
 | .di,x=>x.cV
 | .mX,x=>x.cV
 | .bu,x=>x.cV
 | .iu,x=>x.cV
 | .nO,x=>x.cV
 | .cP,x=>x.cV
 | .Attr,x=>x.cV
 | .Command,x=>x.cV
 | .aK,x=>x.cV
 | .bw,x=>x.cV
 | .Home,x=>x.cV
 | .Change,x=>x.cV
 | .mY,x=>x.cV
 | .jK,x=>x.cV
 | .jj,x=>x.cV
 | .j0,x=>x.cV
 | .Config,x=>x.cV
 | .eS,x=>x.cV
 | .cx,x=>x.cV
 | .fm,x=>x.cV
 | .cI,x=>x.cV
 | .mZ,x=>x.cV
 | .nP,x=>x.cV
 | .eM,x=>x.cV
 | .Case,x=>x.cV
 | .Rd,x=>x.cV
 | .cp,x=>x.cV
def iy:(r:aV)→r.den→List a6
 | .st c,x=>(k2 c x).map fun d=>j9 d.r d.v
 |r,x=>[j9 r x]
def fH:(r:aV)→r.den→a6
 | .mp k v,l=>.mp v.agg (l.map fun p=>lj k p.1) (l.map fun p=>iy v p.2)
 |r,x=>j9 r x
def aF.av(d:aF):a6:=fH d.r d.v
def eY:bL→List aV
 | .str=>[.str]
 | .i64=>[.int .i64]
 | .bool=>[.bool]
 | .u8=>[.int .u8]
 | .cf=>[.int .i64,.int .i64,.str]
 | .di=>[.int .i64,.str,.str]
 | .mX=>[.int .i64,.str,.str]
 | .bu=>[.int .i64,.int .i64,.int .i64,.str,.str,.str,.int .i64,.int .i64,.str,.str]
 | .iu=>[.str,.int .i64,.int .i64,.int .i64,.str,.str,.str,.int .i64,.int .i64,.str,.str]
 | .nO=>[.int .i64,.int .i64,.int .i64,.int .i64,.str,.str,.int .i64,.int .i64,.str,.int .i64,.str,.str,.str,.int .i64,.int .i64,.int .i64,.str,.str,.str,.int .i64,.int .i64,.str,.str]
 | .cP=>[.int .i64,.str,.int .i64]
 | .Attr=>[.str,.int .i64,.int .i64,.int .i64,.li .str,.bool,.bool]
 | .Command=>[.str,.str,.int .i64,.int .i64,.int .i64,.li .str,.bool,.bool,.li .cP]
 | .aK=>[.str,.li .Attr,.li .Command,.li .str]
 | .bw=>[.int .i64,.int .u64,.int .i64,.bool,.int .i64,.str,.li .str]
 | .Home=>[.li .aK,.li .bw]
 | .Change=>[.int .i64,.int .i64]
 | .mY=>[.int .i64,.li .Change]
 | .jK=>[.int .i64,.int .i64,.int .i64,.str,.int .i64,.int .i64,.str,.int .i64,.str,.str,.li .jK]
 | .jj=>[.int .i64,.str,.str,.int .i64,.int .i64,.str,.int .i64]
 | .j0=>[.str,.int .i64,.int .i64,.int .i64,.int .i64,.str,.int .i64,.int .i64,.str,.int .i64,.str,.str,.li .jK,.bool,.li .jj,.li .jj]
 | .Config=>[.li .aK,.li .bw,.li .str,.li .j0,.int .i64,.li .Change,.int .u64]
 | .eS=>[.int .i64,.int .i64]
 | .cx=>[.str,.int .i64,.li .eS,.li .str,.bool]
 | .fm=>[.int .i64,.int .u64]
 | .cI=>[.str,.int .i64,.int .u64]
 | .mZ=>[.int .i64,.str,.int .i64]
 | .nP=>[.int .i64,.str,.str,.int .i64,.int .i64,.str,.int .i64,.str,.int .i64,.int .i64]
 | .eM=>[.str,.int .i64,.int .i64,.int .i64]
 | .Case=>[.li .aK,.li .bw,.li .str,.li .j0,.int .i64,.li .Change,.int .u64,.li .cx,.li .cI,.li .i64,.str,.int .i64,.int .i64,.int .i64,.str,.str,.str,.int .i64,.int .i64,.str,.str,.int .i64,.int .i64]
 | .Rd=>[.str,.int .i64,.bool]
 | .cp=>[.str,.int .i64,.int .i64,.bool]
def pd:(i:bL)→List aF→fO i
 | .str,l=>(l.getD 0 aF.d).aG (.str)
 | .i64,l=>(l.getD 0 aF.d).aG (.int .i64)
 | .bool,l=>(l.getD 0 aF.d).aG (.bool)
 | .u8,l=>(l.getD 0 aF.d).aG (.int .u8)
 | .cf,l=>⟨(l.getD 0 aF.d).aG (.int .i64),(l.getD 1 aF.d).aG (.int .i64),(l.getD 2 aF.d).aG (.str)⟩
 | .di,l=>⟨(l.getD 0 aF.d).aG (.int .i64),(l.getD 1 aF.d).aG (.str),(l.getD 2 aF.d).aG (.str)⟩
 | .mX,l=>⟨(l.getD 0 aF.d).aG (.int .i64),(l.getD 1 aF.d).aG (.str),(l.getD 2 aF.d).aG (.str)⟩
 | .bu,l=>⟨(l.getD 0 aF.d).aG (.int .i64),(l.getD 1 aF.d).aG (.int .i64),⟨(l.getD 2 aF.d).aG (.int .i64),(l.getD 3 aF.d).aG (.str),(l.getD 4 aF.d).aG (.str)⟩,(l.getD 5 aF.d).aG (.str),⟨(l.getD 6 aF.d).aG (.int .i64),(l.getD 7 aF.d).aG (.int .i64),(l.getD 8 aF.d).aG (.str)⟩,(l.getD 9 aF.d).aG (.str)⟩
 | .iu,l=>⟨(l.getD 0 aF.d).aG (.str),⟨(l.getD 1 aF.d).aG (.int .i64),(l.getD 2 aF.d).aG (.int .i64),⟨(l.getD 3 aF.d).aG (.int .i64),(l.getD 4 aF.d).aG (.str),(l.getD 5 aF.d).aG (.str)⟩,(l.getD 6 aF.d).aG (.str),⟨(l.getD 7 aF.d).aG (.int .i64),(l.getD 8 aF.d).aG (.int .i64),(l.getD 9 aF.d).aG (.str)⟩,(l.getD 10 aF.d).aG (.str)⟩⟩
 | .nO,l=>⟨(l.getD 0 aF.d).aG (.int .i64),(l.getD 1 aF.d).aG (.int .i64),(l.getD 2 aF.d).aG (.int .i64),⟨(l.getD 3 aF.d).aG (.int .i64),(l.getD 4 aF.d).aG (.str),(l.getD 5 aF.d).aG (.str)⟩,⟨(l.getD 6 aF.d).aG (.int .i64),(l.getD 7 aF.d).aG (.int .i64),(l.getD 8 aF.d).aG (.str)⟩,⟨(l.getD 9 aF.d).aG (.int .i64),(l.getD 10 aF.d).aG (.str),(l.getD 11 aF.d).aG (.str)⟩,⟨(l.getD 12 aF.d).aG (.str),⟨(l.getD 13 aF.d).aG (.int .i64),(l.getD 14 aF.d).aG (.int .i64),⟨(l.getD 15 aF.d).aG (.int .i64),(l.getD 16 aF.d).aG (.str),(l.getD 17 aF.d).aG (.str)⟩,(l.getD 18 aF.d).aG (.str),⟨(l.getD 19 aF.d).aG (.int .i64),(l.getD 20 aF.d).aG (.int .i64),(l.getD 21 aF.d).aG (.str)⟩,(l.getD 22 aF.d).aG (.str)⟩⟩⟩
 | .cP,l=>⟨(l.getD 0 aF.d).aG (.int .i64),(l.getD 1 aF.d).aG (.str),(l.getD 2 aF.d).aG (.int .i64)⟩
 | .Attr,l=>⟨(l.getD 0 aF.d).aG (.str),(l.getD 1 aF.d).aG (.int .i64),(l.getD 2 aF.d).aG (.int .i64),(l.getD 3 aF.d).aG (.int .i64),(l.getD 4 aF.d).aG (.li .str),(l.getD 5 aF.d).aG (.bool),(l.getD 6 aF.d).aG (.bool)⟩
 | .Command,l=>⟨(l.getD 0 aF.d).aG (.str),⟨(l.getD 1 aF.d).aG (.str),(l.getD 2 aF.d).aG (.int .i64),(l.getD 3 aF.d).aG (.int .i64),(l.getD 4 aF.d).aG (.int .i64),(l.getD 5 aF.d).aG (.li .str),(l.getD 6 aF.d).aG (.bool),(l.getD 7 aF.d).aG (.bool)⟩,(l.getD 8 aF.d).aG (.li .cP)⟩
 | .aK,l=>⟨(l.getD 0 aF.d).aG (.str),(l.getD 1 aF.d).aG (.li .Attr),(l.getD 2 aF.d).aG (.li .Command),(l.getD 3 aF.d).aG (.li .str)⟩
 | .bw,l=>⟨(l.getD 0 aF.d).aG (.int .i64),(l.getD 1 aF.d).aG (.int .u64),(l.getD 2 aF.d).aG (.int .i64),(l.getD 3 aF.d).aG (.bool),(l.getD 4 aF.d).aG (.int .i64),(l.getD 5 aF.d).aG (.str),(l.getD 6 aF.d).aG (.li .str)⟩
 | .Home,l=>⟨(l.getD 0 aF.d).aG (.li .aK),(l.getD 1 aF.d).aG (.li .bw)⟩
 | .Change,l=>⟨(l.getD 0 aF.d).aG (.int .i64),(l.getD 1 aF.d).aG (.int .i64)⟩
 | .mY,l=>⟨(l.getD 0 aF.d).aG (.int .i64),(l.getD 1 aF.d).aG (.li .Change)⟩
 | .jK,l=>⟨(l.getD 0 aF.d).aG (.int .i64),(l.getD 1 aF.d).aG (.int .i64),(l.getD 2 aF.d).aG (.int .i64),(l.getD 3 aF.d).aG (.str),⟨(l.getD 4 aF.d).aG (.int .i64),(l.getD 5 aF.d).aG (.int .i64),(l.getD 6 aF.d).aG (.str)⟩,⟨(l.getD 7 aF.d).aG (.int .i64),(l.getD 8 aF.d).aG (.str),(l.getD 9 aF.d).aG (.str)⟩,(l.getD 10 aF.d).aG (.li .jK)⟩
 | .jj,l=>⟨⟨(l.getD 0 aF.d).aG (.int .i64),(l.getD 1 aF.d).aG (.str),(l.getD 2 aF.d).aG (.str)⟩,⟨(l.getD 3 aF.d).aG (.int .i64),(l.getD 4 aF.d).aG (.int .i64),(l.getD 5 aF.d).aG (.str)⟩,(l.getD 6 aF.d).aG (.int .i64)⟩
 | .j0,l=>⟨(l.getD 0 aF.d).aG (.str),(l.getD 1 aF.d).aG (.int .i64),⟨(l.getD 2 aF.d).aG (.int .i64),(l.getD 3 aF.d).aG (.int .i64),(l.getD 4 aF.d).aG (.int .i64),(l.getD 5 aF.d).aG (.str),⟨(l.getD 6 aF.d).aG (.int .i64),(l.getD 7 aF.d).aG (.int .i64),(l.getD 8 aF.d).aG (.str)⟩,⟨(l.getD 9 aF.d).aG (.int .i64),(l.getD 10 aF.d).aG (.str),(l.getD 11 aF.d).aG (.str)⟩,(l.getD 12 aF.d).aG (.li .jK)⟩,(l.getD 13 aF.d).aG (.bool),(l.getD 14 aF.d).aG (.li .jj),(l.getD 15 aF.d).aG (.li .jj)⟩
 | .Config,l=>⟨⟨(l.getD 0 aF.d).aG (.li .aK),(l.getD 1 aF.d).aG (.li .bw)⟩,(l.getD 2 aF.d).aG (.li .str),(l.getD 3 aF.d).aG (.li .j0),⟨(l.getD 4 aF.d).aG (.int .i64),(l.getD 5 aF.d).aG (.li .Change)⟩,(l.getD 6 aF.d).aG (.int .u64)⟩
 | .eS,l=>⟨(l.getD 0 aF.d).aG (.int .i64),(l.getD 1 aF.d).aG (.int .i64)⟩
 | .cx,l=>⟨(l.getD 0 aF.d).aG (.str),(l.getD 1 aF.d).aG (.int .i64),(l.getD 2 aF.d).aG (.li .eS),(l.getD 3 aF.d).aG (.li .str),(l.getD 4 aF.d).aG (.bool)⟩
 | .fm,l=>⟨(l.getD 0 aF.d).aG (.int .i64),(l.getD 1 aF.d).aG (.int .u64)⟩
 | .cI,l=>⟨(l.getD 0 aF.d).aG (.str),⟨(l.getD 1 aF.d).aG (.int .i64),(l.getD 2 aF.d).aG (.int .u64)⟩⟩
 | .mZ,l=>⟨(l.getD 0 aF.d).aG (.int .i64),(l.getD 1 aF.d).aG (.str),(l.getD 2 aF.d).aG (.int .i64)⟩
 | .nP,l=>⟨⟨(l.getD 0 aF.d).aG (.int .i64),(l.getD 1 aF.d).aG (.str),(l.getD 2 aF.d).aG (.str)⟩,⟨(l.getD 3 aF.d).aG (.int .i64),(l.getD 4 aF.d).aG (.int .i64),(l.getD 5 aF.d).aG (.str)⟩,⟨(l.getD 6 aF.d).aG (.int .i64),(l.getD 7 aF.d).aG (.str),(l.getD 8 aF.d).aG (.int .i64)⟩,(l.getD 9 aF.d).aG (.int .i64)⟩
 | .eM,l=>⟨(l.getD 0 aF.d).aG (.str),(l.getD 1 aF.d).aG (.int .i64),(l.getD 2 aF.d).aG (.int .i64),(l.getD 3 aF.d).aG (.int .i64)⟩
 | .Case,l=>⟨⟨⟨(l.getD 0 aF.d).aG (.li .aK),(l.getD 1 aF.d).aG (.li .bw)⟩,(l.getD 2 aF.d).aG (.li .str),(l.getD 3 aF.d).aG (.li .j0),⟨(l.getD 4 aF.d).aG (.int .i64),(l.getD 5 aF.d).aG (.li .Change)⟩,(l.getD 6 aF.d).aG (.int .u64)⟩,(l.getD 7 aF.d).aG (.li .cx),(l.getD 8 aF.d).aG (.li .cI),(l.getD 9 aF.d).aG (.li .i64),⟨(l.getD 10 aF.d).aG (.str),⟨(l.getD 11 aF.d).aG (.int .i64),(l.getD 12 aF.d).aG (.int .i64),⟨(l.getD 13 aF.d).aG (.int .i64),(l.getD 14 aF.d).aG (.str),(l.getD 15 aF.d).aG (.str)⟩,(l.getD 16 aF.d).aG (.str),⟨(l.getD 17 aF.d).aG (.int .i64),(l.getD 18 aF.d).aG (.int .i64),(l.getD 19 aF.d).aG (.str)⟩,(l.getD 20 aF.d).aG (.str)⟩⟩,(l.getD 21 aF.d).aG (.int .i64),(l.getD 22 aF.d).aG (.int .i64)⟩
 | .Rd,l=>⟨(l.getD 0 aF.d).aG (.str),(l.getD 1 aF.d).aG (.int .i64),(l.getD 2 aF.d).aG (.bool)⟩
 | .cp,l=>⟨(l.getD 0 aF.d).aG (.str),(l.getD 1 aF.d).aG (.int .i64),(l.getD 2 aF.d).aG (.int .i64),(l.getD 3 aF.d).aG (.bool)⟩
def cb(i:bL)(x:fO i):List a6:=(k2 i x).map aF.av
def bZ:bL→Nat
 | .str=>1
 | .i64=>1
 | .bool=>1
 | .u8=>1
 | .cf=>3
 | .di=>3
 | .mX=>3
 | .bu=>10
 | .iu=>11
 | .nO=>23
 | .cP=>3
 | .Attr=>7
 | .Command=>9
 | .aK=>4
 | .bw=>7
 | .Home=>2
 | .Change=>2
 | .mY=>2
 | .jK=>11
 | .jj=>7
 | .j0=>16
 | .Config=>7
 | .eS=>2
 | .cx=>5
 | .fm=>2
 | .cI=>3
 | .mZ=>3
 | .nP=>10
 | .eM=>4
 | .Case=>23
 | .Rd=>3
 | .cp=>4
theorem KI(i:bL)(x:fO i):(k2 i x).map aF.r=eY i:=by cases i<;>rfl
theorem DL(i:bL)(x:fO i):(cb i x).length=bZ i:=by cases i<;>rfl
theorem Ai(d:aF):(⟨d.r,d.aG d.r⟩:aF)=d:=by
 unfold aF.aG
 split
 ·rfl
 ·rename_i h _;exact absurd rfl h
theorem DM{d:aF}{r:aV}(h:d.r=r):(⟨r,d.aG r⟩:aF)=d:=by subst h;exact Ai d
theorem my{α β:Type}{f:α→β}{l:List α}(h:l.map f=[]):l=[]:=by cases l<;>simp_all
theorem lO{α β:Type}{f:α→β}{l:List α}{b:β}{cC:List β}(h:l.map f=b::cC): ∃a h2,l=a::h2∧f a=b∧h2.map f=cC:=by
 cases l with
 |nil=>cases h
 |cons a h2=>simp only[List.map_cons,List.cons.injEq]at h;exact⟨a,h2,rfl,h.1,h.2⟩
theorem DN(i:bL)(l:List aF)(h:l.map aF.r=eY i):k2 i (pd i l)=l:=by
 cases i<;>simp only[eY]at h<;>(repeat (obtain⟨_,_,rfl,ag,h⟩:=lO h;rw[←DM ag];clear ag))<;>(cases my h)<;>rfl
def zed:List Nat:=[183,117]
end Go.aL
