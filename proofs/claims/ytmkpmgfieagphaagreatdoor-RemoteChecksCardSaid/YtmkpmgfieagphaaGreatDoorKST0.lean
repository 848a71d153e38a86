/- Test: the data as Lean structures, codes of types, typed values, immutable values. Conditions: none. -/
import Derived.WalkKit
import Derived.KernelRfl
namespace Go.eK
open Go
structure cd where
 kind:Int
 n:Int
 s:ByteArray
structure dh where
 dev:Int
 dk:ByteArray
 attr:ByteArray
structure mW where
 dev:Int
 dk:ByteArray
 name:ByteArray
structure bs where
 kind:Int
 dy:Int
 key:dh
 name:ByteArray
 value:cd
 text:ByteArray
structure ir where
 token:ByteArray
 request:bs
structure nN where
 kind:Int
 n:Int
 m:Int
 key:dh
 value:cd
 event:mW
 asked:ir
structure cO where
 kind:Int
 attr:ByteArray
 n:Int
structure Attr where
 name:ByteArray
 kind:Int
 min:Int
 max:Int
 enum:List ByteArray
 fB:Bool
 safety:Bool
structure Command where
 name:ByteArray
 param:Attr
 gh:List cO
structure aJ where
 name:ByteArray
 attrs:List Attr
 commands:List Command
 events:List ByteArray
structure bu where
 id:Int
 hg:Int
 oL:Int
 oM:Bool
 kZ:Int
 room:ByteArray
 bp:List ByteArray
structure Home where
 bp:List aJ
 bl:List bu
structure Change where
 at_:Int
 offset:Int
structure mX where
 offset:Int
 changes:List Change
structure jJ where
 kind:Int
 n:Int
 m:Int
 name:ByteArray
 value:cd
 key:dh
 kids:List jJ
structure ji where
 key:dh
 value:cd
 version:Int
structure jZ where
 name:ByteArray
 zd3:Int
 when:jJ
 zd4:Bool
 force:List ji
 zd5:List ji
structure Config where
 home:Home
 zd6:List ByteArray
 zd7:List jZ
 zd8:mX
 key:Int
structure eR where
 from_:Int
 wL:Int
structure cw where
 name:ByteArray
 role:Int
 nK:List eR
 fY:List ByteArray
 home:Bool
structure fl where
 top:Int
 bits:Int
structure cH where
 e8:ByteArray
 uz:fl
structure mY where
 kind:Int
 name:ByteArray
 priority:Int
structure nO where
 key:dh
 value:cd
 zd9:mY
 order:Int
structure eL where
 e8:ByteArray
 id:Int
 oS:Int
 oT:Int
structure Case where
 c:Config
 members:List cw
 zea:List cH
 zeb:List Int
 a:ir
 now:Int
 oP:Int
structure Rd where
 rest:ByteArray
 err:Int
 made:Bool
structure cn where
 s:ByteArray
 at_:Int
 bad:Int
 made:Bool
end Go.eK
namespace Go.aK
open Go Go.eK
inductive bK where
 |str
 |i64
 |bool
 |u8
 |cd
 |dh
 |mW
 |bs
 |ir
 |nN
 |cO
 |Attr
 |Command
 |aJ
 |bu
 |Home
 |Change
 |mX
 |jJ
 |ji
 |jZ
 |Config
 |eR
 |cw
 |fl
 |cH
 |mY
 |nO
 |eL
 |Case
 |Rd
 |cn
 deriving DecidableEq
def zec:List bK:=[.str,.i64,.bool,.u8,.cd,.dh,.mW,.bs,.ir,.nN,.cO,.Attr,.Command,.aJ,.bu,.Home,.Change,.mX,.jJ,.ji,.jZ,.Config,.eR,.cw,.fl,.cH,.mY,.nO,.eL,.Case,.Rd,.cn]
@[reducible] def fN:bK→Type
 | .str=>ByteArray
 | .i64=>Int
 | .bool=>Bool
 | .u8=>Int
 | .cd=>cd
 | .dh=>dh
 | .mW=>mW
 | .bs=>bs
 | .ir=>ir
 | .nN=>nN
 | .cO=>cO
 | .Attr=>Attr
 | .Command=>Command
 | .aJ=>aJ
 | .bu=>bu
 | .Home=>Home
 | .Change=>Change
 | .mX=>mX
 | .jJ=>jJ
 | .ji=>ji
 | .jZ=>jZ
 | .Config=>Config
 | .eR=>eR
 | .cw=>cw
 | .fl=>fl
 | .cH=>cH
 | .mY=>mY
 | .nO=>nO
 | .eL=>eL
 | .Case=>Case
 | .Rd=>Rd
 | .cn=>cn
def aA:(i:bK)→fN i
 | .str=>⟨#[]⟩
 | .i64=>0
 | .bool=>false
 | .u8=>0
 | .cd=>⟨0,0,⟨#[]⟩⟩
 | .dh=>⟨0,⟨#[]⟩,⟨#[]⟩⟩
 | .mW=>⟨0,⟨#[]⟩,⟨#[]⟩⟩
 | .bs=>⟨0,0,⟨0,⟨#[]⟩,⟨#[]⟩⟩,⟨#[]⟩,⟨0,0,⟨#[]⟩⟩,⟨#[]⟩⟩
 | .ir=>⟨⟨#[]⟩,⟨0,0,⟨0,⟨#[]⟩,⟨#[]⟩⟩,⟨#[]⟩,⟨0,0,⟨#[]⟩⟩,⟨#[]⟩⟩⟩
 | .nN=>⟨0,0,0,⟨0,⟨#[]⟩,⟨#[]⟩⟩,⟨0,0,⟨#[]⟩⟩,⟨0,⟨#[]⟩,⟨#[]⟩⟩,⟨⟨#[]⟩,⟨0,0,⟨0,⟨#[]⟩,⟨#[]⟩⟩,⟨#[]⟩,⟨0,0,⟨#[]⟩⟩,⟨#[]⟩⟩⟩⟩
 | .cO=>⟨0,⟨#[]⟩,0⟩
 | .Attr=>⟨⟨#[]⟩,0,0,0,[],false,false⟩
 | .Command=>⟨⟨#[]⟩,⟨⟨#[]⟩,0,0,0,[],false,false⟩,[]⟩
 | .aJ=>⟨⟨#[]⟩,[],[],[]⟩
 | .bu=>⟨0,0,0,false,0,⟨#[]⟩,[]⟩
 | .Home=>⟨[],[]⟩
 | .Change=>⟨0,0⟩
 | .mX=>⟨0,[]⟩
 | .jJ=>⟨0,0,0,⟨#[]⟩,⟨0,0,⟨#[]⟩⟩,⟨0,⟨#[]⟩,⟨#[]⟩⟩,[]⟩
 | .ji=>⟨⟨0,⟨#[]⟩,⟨#[]⟩⟩,⟨0,0,⟨#[]⟩⟩,0⟩
 | .jZ=>⟨⟨#[]⟩,0,⟨0,0,0,⟨#[]⟩,⟨0,0,⟨#[]⟩⟩,⟨0,⟨#[]⟩,⟨#[]⟩⟩,[]⟩,false,[],[]⟩
 | .Config=>⟨⟨[],[]⟩,[],[],⟨0,[]⟩,0⟩
 | .eR=>⟨0,0⟩
 | .cw=>⟨⟨#[]⟩,0,[],[],false⟩
 | .fl=>⟨0,0⟩
 | .cH=>⟨⟨#[]⟩,⟨0,0⟩⟩
 | .mY=>⟨0,⟨#[]⟩,0⟩
 | .nO=>⟨⟨0,⟨#[]⟩,⟨#[]⟩⟩,⟨0,0,⟨#[]⟩⟩,⟨0,⟨#[]⟩,0⟩,0⟩
 | .eL=>⟨⟨#[]⟩,0,0,0⟩
 | .Case=>⟨⟨⟨[],[]⟩,[],[],⟨0,[]⟩,0⟩,[],[],[],⟨⟨#[]⟩,⟨0,0,⟨0,⟨#[]⟩,⟨#[]⟩⟩,⟨#[]⟩,⟨0,0,⟨#[]⟩⟩,⟨#[]⟩⟩⟩,0,0⟩
 | .Rd=>⟨⟨#[]⟩,0,false⟩
 | .cn=>⟨⟨#[]⟩,0,0,false⟩
inductive aU where
 |int (k:IntKind)
 |bool
 |str
 |li (c:bK)
 |st (c:bK)
 |Ag (x y:aU)
 |un
 |mp (k v:aU)
 deriving DecidableEq
@[reducible] def aU.den:aU→Type
 | .int _=>Int
 | .bool=>Bool
 | .str=>ByteArray
 | .li c=>List (fN c)
 | .st c=>fN c
 | .Ag x y=>x.den × y.den
 | .un=>Unit
 | .mp k v=>List (k.den × v.den)
def aU.fy:(r:aU)→r.den
 | .int _=>(0:Int)
 | .bool=>false
 | .str=>(⟨#[]⟩:ByteArray)
 | .li c=>([]:List (fN c))
 | .st c=>aA c
 | .Ag x y=>(x.fy,y.fy)
 | .un=>()
 | .mp k v=>([]:List (k.den × v.den))
structure aF where
 r:aU
 v:r.den
def aF.d:aF:=⟨.un,()⟩
def aF.as(r:aU)(d:aF):r.den:=
 match decEq d.r r with
 | .isTrue h=>h ▸ d.v
 | .isFalse _=>r.fy
inductive a1 where
 |v (x:Value)
 |ptr (cs:List a1)
 |aN (n:Nat) (es:List (List a1))
 |mp (agg:Bool) (ks:List Value) (vs:List (List a1))
 |li (i:bK) (l:List (fN i))
 |er (t:TypeId) (agg:Bool) (cs:List a1)
def j8:(r:aU)→r.den→a1
 | .int k,n=>.v (.int k n)
 | .bool,b=>.v (.bool b)
 | .str,x=>.v (.string x)
 | .li c,l=>.li c l
 |_,_=>.v undef
def lh:(r:aU)→r.den→Value
 | .int k,n=>.int k n
 | .bool,b=>.bool b
 | .str,x=>.string x
 |_,_=>undef
def aU.agg:aU→Bool
 | .st _=>true
 |_=>false
end Go.aK
namespace Go.eK
open Go Go.aK
def cd.cU(x:cd):List aF:=[⟨.int .i64,x.kind⟩,⟨.int .i64,x.n⟩,⟨.str,x.s⟩]
def dh.cU(x:dh):List aF:=[⟨.int .i64,x.dev⟩,⟨.str,x.dk⟩,⟨.str,x.attr⟩]
def mW.cU(x:mW):List aF:=[⟨.int .i64,x.dev⟩,⟨.str,x.dk⟩,⟨.str,x.name⟩]
def bs.cU(x:bs):List aF:=⟨.int .i64,x.kind⟩::⟨.int .i64,x.dy⟩::(x.key.cU++⟨.str,x.name⟩::(x.value.cU++[⟨.str,x.text⟩]))
def ir.cU(x:ir):List aF:=⟨.str,x.token⟩::x.request.cU
def nN.cU(x:nN):List aF:=⟨.int .i64,x.kind⟩::⟨.int .i64,x.n⟩::⟨.int .i64,x.m⟩::(x.key.cU++(x.value.cU++(x.event.cU++x.asked.cU)))
def cO.cU(x:cO):List aF:=[⟨.int .i64,x.kind⟩,⟨.str,x.attr⟩,⟨.int .i64,x.n⟩]
def Attr.cU(x:Attr):List aF:=[⟨.str,x.name⟩,⟨.int .i64,x.kind⟩,⟨.int .i64,x.min⟩,⟨.int .i64,x.max⟩,⟨.li .str,x.enum⟩,⟨.bool,x.fB⟩,⟨.bool,x.safety⟩]
def Command.cU(x:Command):List aF:=⟨.str,x.name⟩::(x.param.cU++[⟨.li .cO,x.gh⟩])
def aJ.cU(x:aJ):List aF:=[⟨.str,x.name⟩,⟨.li .Attr,x.attrs⟩,⟨.li .Command,x.commands⟩,⟨.li .str,x.events⟩]
def bu.cU(x:bu):List aF:=[⟨.int .i64,x.id⟩,⟨.int .u64,x.hg⟩,⟨.int .i64,x.oL⟩,⟨.bool,x.oM⟩,⟨.int .i64,x.kZ⟩,⟨.str,x.room⟩,⟨.li .str,x.bp⟩]
def Home.cU(x:Home):List aF:=[⟨.li .aJ,x.bp⟩,⟨.li .bu,x.bl⟩]
def Change.cU(x:Change):List aF:=[⟨.int .i64,x.at_⟩,⟨.int .i64,x.offset⟩]
def mX.cU(x:mX):List aF:=[⟨.int .i64,x.offset⟩,⟨.li .Change,x.changes⟩]
def jJ.cU(x:jJ):List aF:=⟨.int .i64,x.kind⟩::⟨.int .i64,x.n⟩::⟨.int .i64,x.m⟩::⟨.str,x.name⟩::(x.value.cU++(x.key.cU++[⟨.li .jJ,x.kids⟩]))
def ji.cU(x:ji):List aF:=(x.key.cU++(x.value.cU++[⟨.int .i64,x.version⟩]))
def jZ.cU(x:jZ):List aF:=⟨.str,x.name⟩::⟨.int .i64,x.zd3⟩::(x.when.cU++[⟨.bool,x.zd4⟩,⟨.li .ji,x.force⟩,⟨.li .ji,x.zd5⟩])
def Config.cU(x:Config):List aF:=(x.home.cU++⟨.li .str,x.zd6⟩::⟨.li .jZ,x.zd7⟩::(x.zd8.cU++[⟨.int .u64,x.key⟩]))
def eR.cU(x:eR):List aF:=[⟨.int .i64,x.from_⟩,⟨.int .i64,x.wL⟩]
def cw.cU(x:cw):List aF:=[⟨.str,x.name⟩,⟨.int .i64,x.role⟩,⟨.li .eR,x.nK⟩,⟨.li .str,x.fY⟩,⟨.bool,x.home⟩]
def fl.cU(x:fl):List aF:=[⟨.int .i64,x.top⟩,⟨.int .u64,x.bits⟩]
def cH.cU(x:cH):List aF:=⟨.str,x.e8⟩::x.uz.cU
def mY.cU(x:mY):List aF:=[⟨.int .i64,x.kind⟩,⟨.str,x.name⟩,⟨.int .i64,x.priority⟩]
def nO.cU(x:nO):List aF:=(x.key.cU++(x.value.cU++(x.zd9.cU++[⟨.int .i64,x.order⟩])))
def eL.cU(x:eL):List aF:=[⟨.str,x.e8⟩,⟨.int .i64,x.id⟩,⟨.int .i64,x.oS⟩,⟨.int .i64,x.oT⟩]
def Case.cU(x:Case):List aF:=(x.c.cU++⟨.li .cw,x.members⟩::⟨.li .cH,x.zea⟩::⟨.li .i64,x.zeb⟩::(x.a.cU++[⟨.int .i64,x.now⟩,⟨.int .i64,x.oP⟩]))
def Rd.cU(x:Rd):List aF:=[⟨.str,x.rest⟩,⟨.int .i64,x.err⟩,⟨.bool,x.made⟩]
def cn.cU(x:cn):List aF:=[⟨.str,x.s⟩,⟨.int .i64,x.at_⟩,⟨.int .i64,x.bad⟩,⟨.bool,x.made⟩]
end Go.eK
namespace Go.aK
open Go Go.eK
def k1:(i:bK)→fN i→List aF
 | .str,x=>[⟨.str,x⟩]
 | .i64,x=>[⟨.int .i64,x⟩]
 | .bool,x=>[⟨.bool,x⟩]
 | .u8,x=>[⟨.int .u8,x⟩]
 | .cd,x=>x.cU
 | .dh,x=>x.cU
 | .mW,x=>x.cU
 | .bs,x=>x.cU
 | .ir,x=>x.cU
 | .nN,x=>x.cU
 | .cO,x=>x.cU
 | .Attr,x=>x.cU
 | .Command,x=>x.cU
 | .aJ,x=>x.cU
 | .bu,x=>x.cU
 | .Home,x=>x.cU
 | .Change,x=>x.cU
 | .mX,x=>x.cU
 | .jJ,x=>x.cU
 | .ji,x=>x.cU
 | .jZ,x=>x.cU
 | .Config,x=>x.cU
 | .eR,x=>x.cU
 | .cw,x=>x.cU
 | .fl,x=>x.cU
 | .cH,x=>x.cU
 | .mY,x=>x.cU
 | .nO,x=>x.cU
 | .eL,x=>x.cU
 | .Case,x=>x.cU
 | .Rd,x=>x.cU
 | .cn,x=>x.cU
def ix:(r:aU)→r.den→List a1
 | .st c,x=>(k1 c x).map fun d=>j8 d.r d.v
 |r,x=>[j8 r x]
def fG:(r:aU)→r.den→a1
 | .mp k v,l=>.mp v.agg (l.map fun p=>lh k p.1) (l.map fun p=>ix v p.2)
 |r,x=>j8 r x
def aF.av(d:aF):a1:=fG d.r d.v
def eX:bK→List aU
 | .str=>[.str]
 | .i64=>[.int .i64]
 | .bool=>[.bool]
 | .u8=>[.int .u8]
 | .cd=>[.int .i64,.int .i64,.str]
 | .dh=>[.int .i64,.str,.str]
 | .mW=>[.int .i64,.str,.str]
 | .bs=>[.int .i64,.int .i64,.int .i64,.str,.str,.str,.int .i64,.int .i64,.str,.str]
 | .ir=>[.str,.int .i64,.int .i64,.int .i64,.str,.str,.str,.int .i64,.int .i64,.str,.str]
 | .nN=>[.int .i64,.int .i64,.int .i64,.int .i64,.str,.str,.int .i64,.int .i64,.str,.int .i64,.str,.str,.str,.int .i64,.int .i64,.int .i64,.str,.str,.str,.int .i64,.int .i64,.str,.str]
 | .cO=>[.int .i64,.str,.int .i64]
 | .Attr=>[.str,.int .i64,.int .i64,.int .i64,.li .str,.bool,.bool]
 | .Command=>[.str,.str,.int .i64,.int .i64,.int .i64,.li .str,.bool,.bool,.li .cO]
 | .aJ=>[.str,.li .Attr,.li .Command,.li .str]
 | .bu=>[.int .i64,.int .u64,.int .i64,.bool,.int .i64,.str,.li .str]
 | .Home=>[.li .aJ,.li .bu]
 | .Change=>[.int .i64,.int .i64]
 | .mX=>[.int .i64,.li .Change]
 | .jJ=>[.int .i64,.int .i64,.int .i64,.str,.int .i64,.int .i64,.str,.int .i64,.str,.str,.li .jJ]
 | .ji=>[.int .i64,.str,.str,.int .i64,.int .i64,.str,.int .i64]
 | .jZ=>[.str,.int .i64,.int .i64,.int .i64,.int .i64,.str,.int .i64,.int .i64,.str,.int .i64,.str,.str,.li .jJ,.bool,.li .ji,.li .ji]
 | .Config=>[.li .aJ,.li .bu,.li .str,.li .jZ,.int .i64,.li .Change,.int .u64]
 | .eR=>[.int .i64,.int .i64]
 | .cw=>[.str,.int .i64,.li .eR,.li .str,.bool]
 | .fl=>[.int .i64,.int .u64]
 | .cH=>[.str,.int .i64,.int .u64]
 | .mY=>[.int .i64,.str,.int .i64]
 | .nO=>[.int .i64,.str,.str,.int .i64,.int .i64,.str,.int .i64,.str,.int .i64,.int .i64]
 | .eL=>[.str,.int .i64,.int .i64,.int .i64]
 | .Case=>[.li .aJ,.li .bu,.li .str,.li .jZ,.int .i64,.li .Change,.int .u64,.li .cw,.li .cH,.li .i64,.str,.int .i64,.int .i64,.int .i64,.str,.str,.str,.int .i64,.int .i64,.str,.str,.int .i64,.int .i64]
 | .Rd=>[.str,.int .i64,.bool]
 | .cn=>[.str,.int .i64,.int .i64,.bool]
def pc:(i:bK)→List aF→fN i
 | .str,l=>(l.getD 0 aF.d).as (.str)
 | .i64,l=>(l.getD 0 aF.d).as (.int .i64)
 | .bool,l=>(l.getD 0 aF.d).as (.bool)
 | .u8,l=>(l.getD 0 aF.d).as (.int .u8)
 | .cd,l=>⟨(l.getD 0 aF.d).as (.int .i64),(l.getD 1 aF.d).as (.int .i64),(l.getD 2 aF.d).as (.str)⟩
 | .dh,l=>⟨(l.getD 0 aF.d).as (.int .i64),(l.getD 1 aF.d).as (.str),(l.getD 2 aF.d).as (.str)⟩
 | .mW,l=>⟨(l.getD 0 aF.d).as (.int .i64),(l.getD 1 aF.d).as (.str),(l.getD 2 aF.d).as (.str)⟩
 | .bs,l=>⟨(l.getD 0 aF.d).as (.int .i64),(l.getD 1 aF.d).as (.int .i64),⟨(l.getD 2 aF.d).as (.int .i64),(l.getD 3 aF.d).as (.str),(l.getD 4 aF.d).as (.str)⟩,(l.getD 5 aF.d).as (.str),⟨(l.getD 6 aF.d).as (.int .i64),(l.getD 7 aF.d).as (.int .i64),(l.getD 8 aF.d).as (.str)⟩,(l.getD 9 aF.d).as (.str)⟩
 | .ir,l=>⟨(l.getD 0 aF.d).as (.str),⟨(l.getD 1 aF.d).as (.int .i64),(l.getD 2 aF.d).as (.int .i64),⟨(l.getD 3 aF.d).as (.int .i64),(l.getD 4 aF.d).as (.str),(l.getD 5 aF.d).as (.str)⟩,(l.getD 6 aF.d).as (.str),⟨(l.getD 7 aF.d).as (.int .i64),(l.getD 8 aF.d).as (.int .i64),(l.getD 9 aF.d).as (.str)⟩,(l.getD 10 aF.d).as (.str)⟩⟩
 | .nN,l=>⟨(l.getD 0 aF.d).as (.int .i64),(l.getD 1 aF.d).as (.int .i64),(l.getD 2 aF.d).as (.int .i64),⟨(l.getD 3 aF.d).as (.int .i64),(l.getD 4 aF.d).as (.str),(l.getD 5 aF.d).as (.str)⟩,⟨(l.getD 6 aF.d).as (.int .i64),(l.getD 7 aF.d).as (.int .i64),(l.getD 8 aF.d).as (.str)⟩,⟨(l.getD 9 aF.d).as (.int .i64),(l.getD 10 aF.d).as (.str),(l.getD 11 aF.d).as (.str)⟩,⟨(l.getD 12 aF.d).as (.str),⟨(l.getD 13 aF.d).as (.int .i64),(l.getD 14 aF.d).as (.int .i64),⟨(l.getD 15 aF.d).as (.int .i64),(l.getD 16 aF.d).as (.str),(l.getD 17 aF.d).as (.str)⟩,(l.getD 18 aF.d).as (.str),⟨(l.getD 19 aF.d).as (.int .i64),(l.getD 20 aF.d).as (.int .i64),(l.getD 21 aF.d).as (.str)⟩,(l.getD 22 aF.d).as (.str)⟩⟩⟩
 | .cO,l=>⟨(l.getD 0 aF.d).as (.int .i64),(l.getD 1 aF.d).as (.str),(l.getD 2 aF.d).as (.int .i64)⟩
 | .Attr,l=>⟨(l.getD 0 aF.d).as (.str),(l.getD 1 aF.d).as (.int .i64),(l.getD 2 aF.d).as (.int .i64),(l.getD 3 aF.d).as (.int .i64),(l.getD 4 aF.d).as (.li .str),(l.getD 5 aF.d).as (.bool),(l.getD 6 aF.d).as (.bool)⟩
 | .Command,l=>⟨(l.getD 0 aF.d).as (.str),⟨(l.getD 1 aF.d).as (.str),(l.getD 2 aF.d).as (.int .i64),(l.getD 3 aF.d).as (.int .i64),(l.getD 4 aF.d).as (.int .i64),(l.getD 5 aF.d).as (.li .str),(l.getD 6 aF.d).as (.bool),(l.getD 7 aF.d).as (.bool)⟩,(l.getD 8 aF.d).as (.li .cO)⟩
 | .aJ,l=>⟨(l.getD 0 aF.d).as (.str),(l.getD 1 aF.d).as (.li .Attr),(l.getD 2 aF.d).as (.li .Command),(l.getD 3 aF.d).as (.li .str)⟩
 | .bu,l=>⟨(l.getD 0 aF.d).as (.int .i64),(l.getD 1 aF.d).as (.int .u64),(l.getD 2 aF.d).as (.int .i64),(l.getD 3 aF.d).as (.bool),(l.getD 4 aF.d).as (.int .i64),(l.getD 5 aF.d).as (.str),(l.getD 6 aF.d).as (.li .str)⟩
 | .Home,l=>⟨(l.getD 0 aF.d).as (.li .aJ),(l.getD 1 aF.d).as (.li .bu)⟩
 | .Change,l=>⟨(l.getD 0 aF.d).as (.int .i64),(l.getD 1 aF.d).as (.int .i64)⟩
 | .mX,l=>⟨(l.getD 0 aF.d).as (.int .i64),(l.getD 1 aF.d).as (.li .Change)⟩
 | .jJ,l=>⟨(l.getD 0 aF.d).as (.int .i64),(l.getD 1 aF.d).as (.int .i64),(l.getD 2 aF.d).as (.int .i64),(l.getD 3 aF.d).as (.str),⟨(l.getD 4 aF.d).as (.int .i64),(l.getD 5 aF.d).as (.int .i64),(l.getD 6 aF.d).as (.str)⟩,⟨(l.getD 7 aF.d).as (.int .i64),(l.getD 8 aF.d).as (.str),(l.getD 9 aF.d).as (.str)⟩,(l.getD 10 aF.d).as (.li .jJ)⟩
 | .ji,l=>⟨⟨(l.getD 0 aF.d).as (.int .i64),(l.getD 1 aF.d).as (.str),(l.getD 2 aF.d).as (.str)⟩,⟨(l.getD 3 aF.d).as (.int .i64),(l.getD 4 aF.d).as (.int .i64),(l.getD 5 aF.d).as (.str)⟩,(l.getD 6 aF.d).as (.int .i64)⟩
 | .jZ,l=>⟨(l.getD 0 aF.d).as (.str),(l.getD 1 aF.d).as (.int .i64),⟨(l.getD 2 aF.d).as (.int .i64),(l.getD 3 aF.d).as (.int .i64),(l.getD 4 aF.d).as (.int .i64),(l.getD 5 aF.d).as (.str),⟨(l.getD 6 aF.d).as (.int .i64),(l.getD 7 aF.d).as (.int .i64),(l.getD 8 aF.d).as (.str)⟩,⟨(l.getD 9 aF.d).as (.int .i64),(l.getD 10 aF.d).as (.str),(l.getD 11 aF.d).as (.str)⟩,(l.getD 12 aF.d).as (.li .jJ)⟩,(l.getD 13 aF.d).as (.bool),(l.getD 14 aF.d).as (.li .ji),(l.getD 15 aF.d).as (.li .ji)⟩
 | .Config,l=>⟨⟨(l.getD 0 aF.d).as (.li .aJ),(l.getD 1 aF.d).as (.li .bu)⟩,(l.getD 2 aF.d).as (.li .str),(l.getD 3 aF.d).as (.li .jZ),⟨(l.getD 4 aF.d).as (.int .i64),(l.getD 5 aF.d).as (.li .Change)⟩,(l.getD 6 aF.d).as (.int .u64)⟩
 | .eR,l=>⟨(l.getD 0 aF.d).as (.int .i64),(l.getD 1 aF.d).as (.int .i64)⟩
 | .cw,l=>⟨(l.getD 0 aF.d).as (.str),(l.getD 1 aF.d).as (.int .i64),(l.getD 2 aF.d).as (.li .eR),(l.getD 3 aF.d).as (.li .str),(l.getD 4 aF.d).as (.bool)⟩
 | .fl,l=>⟨(l.getD 0 aF.d).as (.int .i64),(l.getD 1 aF.d).as (.int .u64)⟩
 | .cH,l=>⟨(l.getD 0 aF.d).as (.str),⟨(l.getD 1 aF.d).as (.int .i64),(l.getD 2 aF.d).as (.int .u64)⟩⟩
 | .mY,l=>⟨(l.getD 0 aF.d).as (.int .i64),(l.getD 1 aF.d).as (.str),(l.getD 2 aF.d).as (.int .i64)⟩
 | .nO,l=>⟨⟨(l.getD 0 aF.d).as (.int .i64),(l.getD 1 aF.d).as (.str),(l.getD 2 aF.d).as (.str)⟩,⟨(l.getD 3 aF.d).as (.int .i64),(l.getD 4 aF.d).as (.int .i64),(l.getD 5 aF.d).as (.str)⟩,⟨(l.getD 6 aF.d).as (.int .i64),(l.getD 7 aF.d).as (.str),(l.getD 8 aF.d).as (.int .i64)⟩,(l.getD 9 aF.d).as (.int .i64)⟩
 | .eL,l=>⟨(l.getD 0 aF.d).as (.str),(l.getD 1 aF.d).as (.int .i64),(l.getD 2 aF.d).as (.int .i64),(l.getD 3 aF.d).as (.int .i64)⟩
 | .Case,l=>⟨⟨⟨(l.getD 0 aF.d).as (.li .aJ),(l.getD 1 aF.d).as (.li .bu)⟩,(l.getD 2 aF.d).as (.li .str),(l.getD 3 aF.d).as (.li .jZ),⟨(l.getD 4 aF.d).as (.int .i64),(l.getD 5 aF.d).as (.li .Change)⟩,(l.getD 6 aF.d).as (.int .u64)⟩,(l.getD 7 aF.d).as (.li .cw),(l.getD 8 aF.d).as (.li .cH),(l.getD 9 aF.d).as (.li .i64),⟨(l.getD 10 aF.d).as (.str),⟨(l.getD 11 aF.d).as (.int .i64),(l.getD 12 aF.d).as (.int .i64),⟨(l.getD 13 aF.d).as (.int .i64),(l.getD 14 aF.d).as (.str),(l.getD 15 aF.d).as (.str)⟩,(l.getD 16 aF.d).as (.str),⟨(l.getD 17 aF.d).as (.int .i64),(l.getD 18 aF.d).as (.int .i64),(l.getD 19 aF.d).as (.str)⟩,(l.getD 20 aF.d).as (.str)⟩⟩,(l.getD 21 aF.d).as (.int .i64),(l.getD 22 aF.d).as (.int .i64)⟩
 | .Rd,l=>⟨(l.getD 0 aF.d).as (.str),(l.getD 1 aF.d).as (.int .i64),(l.getD 2 aF.d).as (.bool)⟩
 | .cn,l=>⟨(l.getD 0 aF.d).as (.str),(l.getD 1 aF.d).as (.int .i64),(l.getD 2 aF.d).as (.int .i64),(l.getD 3 aF.d).as (.bool)⟩
def b9(i:bK)(x:fN i):List a1:=(k1 i x).map aF.av
def bY:bK→Nat
 | .str=>1
 | .i64=>1
 | .bool=>1
 | .u8=>1
 | .cd=>3
 | .dh=>3
 | .mW=>3
 | .bs=>10
 | .ir=>11
 | .nN=>23
 | .cO=>3
 | .Attr=>7
 | .Command=>9
 | .aJ=>4
 | .bu=>7
 | .Home=>2
 | .Change=>2
 | .mX=>2
 | .jJ=>11
 | .ji=>7
 | .jZ=>16
 | .Config=>7
 | .eR=>2
 | .cw=>5
 | .fl=>2
 | .cH=>3
 | .mY=>3
 | .nO=>10
 | .eL=>4
 | .Case=>23
 | .Rd=>3
 | .cn=>4
theorem KH(i:bK)(x:fN i):(k1 i x).map aF.r=eX i:=by cases i<;>rfl
theorem DK(i:bK)(x:fN i):(b9 i x).length=bY i:=by cases i<;>rfl
theorem Ah(d:aF):(⟨d.r,d.as d.r⟩:aF)=d:=by
 unfold aF.as
 split
 ·rfl
 ·rename_i h _;exact absurd rfl h
theorem DL{d:aF}{r:aU}(h:d.r=r):(⟨r,d.as r⟩:aF)=d:=by subst h;exact Ah d
theorem mw{α β:Type}{f:α→β}{l:List α}(h:l.map f=[]):l=[]:=by cases l<;>simp_all
theorem lN{α β:Type}{f:α→β}{l:List α}{b:β}{cB:List β}(h:l.map f=b::cB): ∃a h1,l=a::h1∧f a=b∧h1.map f=cB:=by
 cases l with
 |nil=>cases h
 |cons a h1=>simp only[List.map_cons,List.cons.injEq]at h;exact⟨a,h1,rfl,h.1,h.2⟩
theorem DM(i:bK)(l:List aF)(h:l.map aF.r=eX i):k1 i (pc i l)=l:=by
 cases i<;>simp only[eX]at h<;>(repeat (obtain⟨_,_,rfl,ag,h⟩:=lN h;rw[←DL ag];clear ag))<;>(cases mw h)<;>rfl
def zed:List Nat:=[183,117]
end Go.aK
