/- Test: the data as Lean structures, codes of types, typed values, immutable values. Conditions: none. -/
import Derived.WalkKit
import Derived.KernelRfl
namespace Go.eg
open Go
structure c6 where
 kind:Int
 n:Int
 s:ByteArray
structure cd where
 dev:Int
 cK:ByteArray
 attr:ByteArray
structure m5 where
 dev:Int
 cK:ByteArray
 name:ByteArray
structure bQ where
 kind:Int
 dO:Int
 key:cd
 name:ByteArray
 value:c6
 text:ByteArray
structure gl where
 token:ByteArray
 request:bQ
structure nW where
 kind:Int
 n:Int
 m:Int
 key:cd
 value:c6
 event:m5
 asked:gl
structure cX where
 kind:Int
 attr:ByteArray
 n:Int
structure Attr where
 name:ByteArray
 kind:Int
 min:Int
 max:Int
 enum:List ByteArray
 fG:Bool
 safety:Bool
structure Command where
 name:ByteArray
 param:Attr
 gq:List cX
structure aO where
 name:ByteArray
 attrs:List Attr
 commands:List Command
 events:List ByteArray
structure bA where
 id:Int
 hk:Int
 oQ:Int
 oR:Bool
 kZ:Int
 room:ByteArray
 bq:List ByteArray
structure Home where
 bq:List aO
 a8:List bA
structure Change where
 at_:Int
 offset:Int
structure m6 where
 offset:Int
 changes:List Change
structure jP where
 kind:Int
 n:Int
 m:Int
 name:ByteArray
 value:c6
 key:cd
 kids:List jP
structure jn where
 key:cd
 value:c6
 version:Int
structure j6 where
 name:ByteArray
 zgi:Int
 when:jP
 zgj:Bool
 force:List jn
 zgk:List jn
structure Config where
 home:Home
 sr:List ByteArray
 ss:List j6
 lB:m6
 key:Int
structure df where
 from_:Int
 oX:Int
structure br where
 name:ByteArray
 role:Int
 gA:List df
 dj:List ByteArray
 home:Bool
structure cv where
 top:Int
 bits:Int
structure aX where
 cq:ByteArray
 gT:cv
structure m7 where
 kind:Int
 name:ByteArray
 priority:Int
structure nX where
 key:cd
 value:c6
 zgl:m7
 order:Int
structure dS where
 cq:ByteArray
 id:Int
 mZ:Int
 m0:Int
structure Case where
 c:Config
 members:List br
 kS:List aX
 oF:List Int
 a:gl
 now:Int
 hb:Int
structure Rd where
 rest:ByteArray
 err:Int
 made:Bool
structure dA where
 s:ByteArray
 at_:Int
 bad:Int
 made:Bool
end Go.eg
namespace Go.aN
open Go Go.eg
inductive bR where
 |str
 |i64
 |bool
 |u8
 |c6
 |cd
 |m5
 |bQ
 |gl
 |nW
 |cX
 |Attr
 |Command
 |aO
 |bA
 |Home
 |Change
 |m6
 |jP
 |jn
 |j6
 |Config
 |df
 |br
 |cv
 |aX
 |m7
 |nX
 |dS
 |Case
 |Rd
 |dA
 deriving DecidableEq
def zgm:List bR:=[.str,.i64,.bool,.u8,.c6,.cd,.m5,.bQ,.gl,.nW,.cX,.Attr,.Command,.aO,.bA,.Home,.Change,.m6,.jP,.jn,.j6,.Config,.df,.br,.cv,.aX,.m7,.nX,.dS,.Case,.Rd,.dA]
@[reducible] def fS:bR→Type
 | .str=>ByteArray
 | .i64=>Int
 | .bool=>Bool
 | .u8=>Int
 | .c6=>c6
 | .cd=>cd
 | .m5=>m5
 | .bQ=>bQ
 | .gl=>gl
 | .nW=>nW
 | .cX=>cX
 | .Attr=>Attr
 | .Command=>Command
 | .aO=>aO
 | .bA=>bA
 | .Home=>Home
 | .Change=>Change
 | .m6=>m6
 | .jP=>jP
 | .jn=>jn
 | .j6=>j6
 | .Config=>Config
 | .df=>df
 | .br=>br
 | .cv=>cv
 | .aX=>aX
 | .m7=>m7
 | .nX=>nX
 | .dS=>dS
 | .Case=>Case
 | .Rd=>Rd
 | .dA=>dA
def aw:(i:bR)→fS i
 | .str=>⟨#[]⟩
 | .i64=>0
 | .bool=>false
 | .u8=>0
 | .c6=>⟨0,0,⟨#[]⟩⟩
 | .cd=>⟨0,⟨#[]⟩,⟨#[]⟩⟩
 | .m5=>⟨0,⟨#[]⟩,⟨#[]⟩⟩
 | .bQ=>⟨0,0,⟨0,⟨#[]⟩,⟨#[]⟩⟩,⟨#[]⟩,⟨0,0,⟨#[]⟩⟩,⟨#[]⟩⟩
 | .gl=>⟨⟨#[]⟩,⟨0,0,⟨0,⟨#[]⟩,⟨#[]⟩⟩,⟨#[]⟩,⟨0,0,⟨#[]⟩⟩,⟨#[]⟩⟩⟩
 | .nW=>⟨0,0,0,⟨0,⟨#[]⟩,⟨#[]⟩⟩,⟨0,0,⟨#[]⟩⟩,⟨0,⟨#[]⟩,⟨#[]⟩⟩,⟨⟨#[]⟩,⟨0,0,⟨0,⟨#[]⟩,⟨#[]⟩⟩,⟨#[]⟩,⟨0,0,⟨#[]⟩⟩,⟨#[]⟩⟩⟩⟩
 | .cX=>⟨0,⟨#[]⟩,0⟩
 | .Attr=>⟨⟨#[]⟩,0,0,0,[],false,false⟩
 | .Command=>⟨⟨#[]⟩,⟨⟨#[]⟩,0,0,0,[],false,false⟩,[]⟩
 | .aO=>⟨⟨#[]⟩,[],[],[]⟩
 | .bA=>⟨0,0,0,false,0,⟨#[]⟩,[]⟩
 | .Home=>⟨[],[]⟩
 | .Change=>⟨0,0⟩
 | .m6=>⟨0,[]⟩
 | .jP=>⟨0,0,0,⟨#[]⟩,⟨0,0,⟨#[]⟩⟩,⟨0,⟨#[]⟩,⟨#[]⟩⟩,[]⟩
 | .jn=>⟨⟨0,⟨#[]⟩,⟨#[]⟩⟩,⟨0,0,⟨#[]⟩⟩,0⟩
 | .j6=>⟨⟨#[]⟩,0,⟨0,0,0,⟨#[]⟩,⟨0,0,⟨#[]⟩⟩,⟨0,⟨#[]⟩,⟨#[]⟩⟩,[]⟩,false,[],[]⟩
 | .Config=>⟨⟨[],[]⟩,[],[],⟨0,[]⟩,0⟩
 | .df=>⟨0,0⟩
 | .br=>⟨⟨#[]⟩,0,[],[],false⟩
 | .cv=>⟨0,0⟩
 | .aX=>⟨⟨#[]⟩,⟨0,0⟩⟩
 | .m7=>⟨0,⟨#[]⟩,0⟩
 | .nX=>⟨⟨0,⟨#[]⟩,⟨#[]⟩⟩,⟨0,0,⟨#[]⟩⟩,⟨0,⟨#[]⟩,0⟩,0⟩
 | .dS=>⟨⟨#[]⟩,0,0,0⟩
 | .Case=>⟨⟨⟨[],[]⟩,[],[],⟨0,[]⟩,0⟩,[],[],[],⟨⟨#[]⟩,⟨0,0,⟨0,⟨#[]⟩,⟨#[]⟩⟩,⟨#[]⟩,⟨0,0,⟨#[]⟩⟩,⟨#[]⟩⟩⟩,0,0⟩
 | .Rd=>⟨⟨#[]⟩,0,false⟩
 | .dA=>⟨⟨#[]⟩,0,0,false⟩
inductive aW where
 |int (k:IntKind)
 |bool
 |str
 |li (c:bR)
 |st (c:bR)
 |A3 (x y:aW)
 |un
 |mp (k v:aW)
 deriving DecidableEq
@[reducible] def aW.den:aW→Type
 | .int _=>Int
 | .bool=>Bool
 | .str=>ByteArray
 | .li c=>List (fS c)
 | .st c=>fS c
 | .A3 x y=>x.den × y.den
 | .un=>Unit
 | .mp k v=>List (k.den × v.den)
def aW.fC:(r:aW)→r.den
 | .int _=>(0:Int)
 | .bool=>false
 | .str=>(⟨#[]⟩:ByteArray)
 | .li c=>([]:List (fS c))
 | .st c=>aw c
 | .A3 x y=>(x.fC,y.fC)
 | .un=>()
 | .mp k v=>([]:List (k.den × v.den))
structure aF where
 r:aW
 v:r.den
def aF.d:aF:=⟨.un,()⟩
def aF.aG(r:aW)(d:aF):r.den:=
 match decEq d.r r with
 | .isTrue h=>h ▸ d.v
 | .isFalse _=>r.fC
inductive ba where
 |v (x:Value)
 |ptr (cs:List ba)
 |aP (n:Nat) (es:List (List ba))
 |mp (agg:Bool) (ks:List Value) (vs:List (List ba))
 |li (i:bR) (l:List (fS i))
 |eB (t:TypeId) (agg:Bool) (cs:List ba)
def kg:(r:aW)→r.den→ba
 | .int k,n=>.v (.int k n)
 | .bool,b=>.v (.bool b)
 | .str,x=>.v (.string x)
 | .li c,l=>.li c l
 |_,_=>.v undef
def lg:(r:aW)→r.den→Value
 | .int k,n=>.int k n
 | .bool,b=>.bool b
 | .str,x=>.string x
 |_,_=>undef
def aW.agg:aW→Bool
 | .st _=>true
 |_=>false
end Go.aN
namespace Go.eg
open Go Go.aN
def c6.c3(x:c6):List aF:=[⟨.int .i64,x.kind⟩,⟨.int .i64,x.n⟩,⟨.str,x.s⟩]
def cd.c3(x:cd):List aF:=[⟨.int .i64,x.dev⟩,⟨.str,x.cK⟩,⟨.str,x.attr⟩]
def m5.c3(x:m5):List aF:=[⟨.int .i64,x.dev⟩,⟨.str,x.cK⟩,⟨.str,x.name⟩]
def bQ.c3(x:bQ):List aF:=⟨.int .i64,x.kind⟩::⟨.int .i64,x.dO⟩::(x.key.c3++⟨.str,x.name⟩::(x.value.c3++[⟨.str,x.text⟩]))
def gl.c3(x:gl):List aF:=⟨.str,x.token⟩::x.request.c3
def nW.c3(x:nW):List aF:=⟨.int .i64,x.kind⟩::⟨.int .i64,x.n⟩::⟨.int .i64,x.m⟩::(x.key.c3++(x.value.c3++(x.event.c3++x.asked.c3)))
def cX.c3(x:cX):List aF:=[⟨.int .i64,x.kind⟩,⟨.str,x.attr⟩,⟨.int .i64,x.n⟩]
def Attr.c3(x:Attr):List aF:=[⟨.str,x.name⟩,⟨.int .i64,x.kind⟩,⟨.int .i64,x.min⟩,⟨.int .i64,x.max⟩,⟨.li .str,x.enum⟩,⟨.bool,x.fG⟩,⟨.bool,x.safety⟩]
def Command.c3(x:Command):List aF:=⟨.str,x.name⟩::(x.param.c3++[⟨.li .cX,x.gq⟩])
def aO.c3(x:aO):List aF:=[⟨.str,x.name⟩,⟨.li .Attr,x.attrs⟩,⟨.li .Command,x.commands⟩,⟨.li .str,x.events⟩]
def bA.c3(x:bA):List aF:=[⟨.int .i64,x.id⟩,⟨.int .u64,x.hk⟩,⟨.int .i64,x.oQ⟩,⟨.bool,x.oR⟩,⟨.int .i64,x.kZ⟩,⟨.str,x.room⟩,⟨.li .str,x.bq⟩]
def Home.c3(x:Home):List aF:=[⟨.li .aO,x.bq⟩,⟨.li .bA,x.a8⟩]
def Change.c3(x:Change):List aF:=[⟨.int .i64,x.at_⟩,⟨.int .i64,x.offset⟩]
def m6.c3(x:m6):List aF:=[⟨.int .i64,x.offset⟩,⟨.li .Change,x.changes⟩]
def jP.c3(x:jP):List aF:=⟨.int .i64,x.kind⟩::⟨.int .i64,x.n⟩::⟨.int .i64,x.m⟩::⟨.str,x.name⟩::(x.value.c3++(x.key.c3++[⟨.li .jP,x.kids⟩]))
def jn.c3(x:jn):List aF:=(x.key.c3++(x.value.c3++[⟨.int .i64,x.version⟩]))
def j6.c3(x:j6):List aF:=⟨.str,x.name⟩::⟨.int .i64,x.zgi⟩::(x.when.c3++[⟨.bool,x.zgj⟩,⟨.li .jn,x.force⟩,⟨.li .jn,x.zgk⟩])
def Config.c3(x:Config):List aF:=(x.home.c3++⟨.li .str,x.sr⟩::⟨.li .j6,x.ss⟩::(x.lB.c3++[⟨.int .u64,x.key⟩]))
def df.c3(x:df):List aF:=[⟨.int .i64,x.from_⟩,⟨.int .i64,x.oX⟩]
def br.c3(x:br):List aF:=[⟨.str,x.name⟩,⟨.int .i64,x.role⟩,⟨.li .df,x.gA⟩,⟨.li .str,x.dj⟩,⟨.bool,x.home⟩]
def cv.c3(x:cv):List aF:=[⟨.int .i64,x.top⟩,⟨.int .u64,x.bits⟩]
def aX.c3(x:aX):List aF:=⟨.str,x.cq⟩::x.gT.c3
def m7.c3(x:m7):List aF:=[⟨.int .i64,x.kind⟩,⟨.str,x.name⟩,⟨.int .i64,x.priority⟩]
def nX.c3(x:nX):List aF:=(x.key.c3++(x.value.c3++(x.zgl.c3++[⟨.int .i64,x.order⟩])))
def dS.c3(x:dS):List aF:=[⟨.str,x.cq⟩,⟨.int .i64,x.id⟩,⟨.int .i64,x.mZ⟩,⟨.int .i64,x.m0⟩]
def Case.c3(x:Case):List aF:=(x.c.c3++⟨.li .br,x.members⟩::⟨.li .aX,x.kS⟩::⟨.li .i64,x.oF⟩::(x.a.c3++[⟨.int .i64,x.now⟩,⟨.int .i64,x.hb⟩]))
def Rd.c3(x:Rd):List aF:=[⟨.str,x.rest⟩,⟨.int .i64,x.err⟩,⟨.bool,x.made⟩]
def dA.c3(x:dA):List aF:=[⟨.str,x.s⟩,⟨.int .i64,x.at_⟩,⟨.int .i64,x.bad⟩,⟨.bool,x.made⟩]
end Go.eg
namespace Go.aN
open Go Go.eg
def lR:(i:bR)→fS i→List aF
 | .str,x=>[⟨.str,x⟩]
 | .i64,x=>[⟨.int .i64,x⟩]
 | .bool,x=>[⟨.bool,x⟩]
 | .u8,x=>[⟨.int .u8,x⟩]
 | .c6,x=>x.c3
 | .cd,x=>x.c3
 | .m5,x=>x.c3
 | .bQ,x=>x.c3
 | .gl,x=>x.c3
 | .nW,x=>x.c3
 | .cX,x=>x.c3
 | .Attr,x=>x.c3
 | .Command,x=>x.c3
 | .aO,x=>x.c3
 | .bA,x=>x.c3
 | .Home,x=>x.c3
 | .Change,x=>x.c3
 | .m6,x=>x.c3
 | .jP,x=>x.c3
 | .jn,x=>x.c3
 | .j6,x=>x.c3
 | .Config,x=>x.c3
 | .df,x=>x.c3
 | .br,x=>x.c3
 | .cv,x=>x.c3
 | .aX,x=>x.c3
 | .m7,x=>x.c3
 | .nX,x=>x.c3
 | .dS,x=>x.c3
 | .Case,x=>x.c3
 | .Rd,x=>x.c3
 | .dA,x=>x.c3
def iG:(r:aW)→r.den→List ba
 | .st c,x=>(lR c x).map fun d=>kg d.r d.v
 |r,x=>[kg r x]
def fL:(r:aW)→r.den→ba
 | .mp k v,l=>.mp v.agg (l.map fun p=>lg k p.1) (l.map fun p=>iG v p.2)
 |r,x=>kg r x
def aF.av(d:aF):ba:=fL d.r d.v
def eV:bR→List aW
 | .str=>[.str]
 | .i64=>[.int .i64]
 | .bool=>[.bool]
 | .u8=>[.int .u8]
 | .c6=>[.int .i64,.int .i64,.str]
 | .cd=>[.int .i64,.str,.str]
 | .m5=>[.int .i64,.str,.str]
 | .bQ=>[.int .i64,.int .i64,.int .i64,.str,.str,.str,.int .i64,.int .i64,.str,.str]
 | .gl=>[.str,.int .i64,.int .i64,.int .i64,.str,.str,.str,.int .i64,.int .i64,.str,.str]
 | .nW=>[.int .i64,.int .i64,.int .i64,.int .i64,.str,.str,.int .i64,.int .i64,.str,.int .i64,.str,.str,.str,.int .i64,.int .i64,.int .i64,.str,.str,.str,.int .i64,.int .i64,.str,.str]
 | .cX=>[.int .i64,.str,.int .i64]
 | .Attr=>[.str,.int .i64,.int .i64,.int .i64,.li .str,.bool,.bool]
 | .Command=>[.str,.str,.int .i64,.int .i64,.int .i64,.li .str,.bool,.bool,.li .cX]
 | .aO=>[.str,.li .Attr,.li .Command,.li .str]
 | .bA=>[.int .i64,.int .u64,.int .i64,.bool,.int .i64,.str,.li .str]
 | .Home=>[.li .aO,.li .bA]
 | .Change=>[.int .i64,.int .i64]
 | .m6=>[.int .i64,.li .Change]
 | .jP=>[.int .i64,.int .i64,.int .i64,.str,.int .i64,.int .i64,.str,.int .i64,.str,.str,.li .jP]
 | .jn=>[.int .i64,.str,.str,.int .i64,.int .i64,.str,.int .i64]
 | .j6=>[.str,.int .i64,.int .i64,.int .i64,.int .i64,.str,.int .i64,.int .i64,.str,.int .i64,.str,.str,.li .jP,.bool,.li .jn,.li .jn]
 | .Config=>[.li .aO,.li .bA,.li .str,.li .j6,.int .i64,.li .Change,.int .u64]
 | .df=>[.int .i64,.int .i64]
 | .br=>[.str,.int .i64,.li .df,.li .str,.bool]
 | .cv=>[.int .i64,.int .u64]
 | .aX=>[.str,.int .i64,.int .u64]
 | .m7=>[.int .i64,.str,.int .i64]
 | .nX=>[.int .i64,.str,.str,.int .i64,.int .i64,.str,.int .i64,.str,.int .i64,.int .i64]
 | .dS=>[.str,.int .i64,.int .i64,.int .i64]
 | .Case=>[.li .aO,.li .bA,.li .str,.li .j6,.int .i64,.li .Change,.int .u64,.li .br,.li .aX,.li .i64,.str,.int .i64,.int .i64,.int .i64,.str,.str,.str,.int .i64,.int .i64,.str,.str,.int .i64,.int .i64]
 | .Rd=>[.str,.int .i64,.bool]
 | .dA=>[.str,.int .i64,.int .i64,.bool]
def ph:(i:bR)→List aF→fS i
 | .str,l=>(l.getD 0 aF.d).aG (.str)
 | .i64,l=>(l.getD 0 aF.d).aG (.int .i64)
 | .bool,l=>(l.getD 0 aF.d).aG (.bool)
 | .u8,l=>(l.getD 0 aF.d).aG (.int .u8)
 | .c6,l=>⟨(l.getD 0 aF.d).aG (.int .i64),(l.getD 1 aF.d).aG (.int .i64),(l.getD 2 aF.d).aG (.str)⟩
 | .cd,l=>⟨(l.getD 0 aF.d).aG (.int .i64),(l.getD 1 aF.d).aG (.str),(l.getD 2 aF.d).aG (.str)⟩
 | .m5,l=>⟨(l.getD 0 aF.d).aG (.int .i64),(l.getD 1 aF.d).aG (.str),(l.getD 2 aF.d).aG (.str)⟩
 | .bQ,l=>⟨(l.getD 0 aF.d).aG (.int .i64),(l.getD 1 aF.d).aG (.int .i64),⟨(l.getD 2 aF.d).aG (.int .i64),(l.getD 3 aF.d).aG (.str),(l.getD 4 aF.d).aG (.str)⟩,(l.getD 5 aF.d).aG (.str),⟨(l.getD 6 aF.d).aG (.int .i64),(l.getD 7 aF.d).aG (.int .i64),(l.getD 8 aF.d).aG (.str)⟩,(l.getD 9 aF.d).aG (.str)⟩
 | .gl,l=>⟨(l.getD 0 aF.d).aG (.str),⟨(l.getD 1 aF.d).aG (.int .i64),(l.getD 2 aF.d).aG (.int .i64),⟨(l.getD 3 aF.d).aG (.int .i64),(l.getD 4 aF.d).aG (.str),(l.getD 5 aF.d).aG (.str)⟩,(l.getD 6 aF.d).aG (.str),⟨(l.getD 7 aF.d).aG (.int .i64),(l.getD 8 aF.d).aG (.int .i64),(l.getD 9 aF.d).aG (.str)⟩,(l.getD 10 aF.d).aG (.str)⟩⟩
 | .nW,l=>⟨(l.getD 0 aF.d).aG (.int .i64),(l.getD 1 aF.d).aG (.int .i64),(l.getD 2 aF.d).aG (.int .i64),⟨(l.getD 3 aF.d).aG (.int .i64),(l.getD 4 aF.d).aG (.str),(l.getD 5 aF.d).aG (.str)⟩,⟨(l.getD 6 aF.d).aG (.int .i64),(l.getD 7 aF.d).aG (.int .i64),(l.getD 8 aF.d).aG (.str)⟩,⟨(l.getD 9 aF.d).aG (.int .i64),(l.getD 10 aF.d).aG (.str),(l.getD 11 aF.d).aG (.str)⟩,⟨(l.getD 12 aF.d).aG (.str),⟨(l.getD 13 aF.d).aG (.int .i64),(l.getD 14 aF.d).aG (.int .i64),⟨(l.getD 15 aF.d).aG (.int .i64),(l.getD 16 aF.d).aG (.str),(l.getD 17 aF.d).aG (.str)⟩,(l.getD 18 aF.d).aG (.str),⟨(l.getD 19 aF.d).aG (.int .i64),(l.getD 20 aF.d).aG (.int .i64),(l.getD 21 aF.d).aG (.str)⟩,(l.getD 22 aF.d).aG (.str)⟩⟩⟩
 | .cX,l=>⟨(l.getD 0 aF.d).aG (.int .i64),(l.getD 1 aF.d).aG (.str),(l.getD 2 aF.d).aG (.int .i64)⟩
 | .Attr,l=>⟨(l.getD 0 aF.d).aG (.str),(l.getD 1 aF.d).aG (.int .i64),(l.getD 2 aF.d).aG (.int .i64),(l.getD 3 aF.d).aG (.int .i64),(l.getD 4 aF.d).aG (.li .str),(l.getD 5 aF.d).aG (.bool),(l.getD 6 aF.d).aG (.bool)⟩
 | .Command,l=>⟨(l.getD 0 aF.d).aG (.str),⟨(l.getD 1 aF.d).aG (.str),(l.getD 2 aF.d).aG (.int .i64),(l.getD 3 aF.d).aG (.int .i64),(l.getD 4 aF.d).aG (.int .i64),(l.getD 5 aF.d).aG (.li .str),(l.getD 6 aF.d).aG (.bool),(l.getD 7 aF.d).aG (.bool)⟩,(l.getD 8 aF.d).aG (.li .cX)⟩
 | .aO,l=>⟨(l.getD 0 aF.d).aG (.str),(l.getD 1 aF.d).aG (.li .Attr),(l.getD 2 aF.d).aG (.li .Command),(l.getD 3 aF.d).aG (.li .str)⟩
 | .bA,l=>⟨(l.getD 0 aF.d).aG (.int .i64),(l.getD 1 aF.d).aG (.int .u64),(l.getD 2 aF.d).aG (.int .i64),(l.getD 3 aF.d).aG (.bool),(l.getD 4 aF.d).aG (.int .i64),(l.getD 5 aF.d).aG (.str),(l.getD 6 aF.d).aG (.li .str)⟩
 | .Home,l=>⟨(l.getD 0 aF.d).aG (.li .aO),(l.getD 1 aF.d).aG (.li .bA)⟩
 | .Change,l=>⟨(l.getD 0 aF.d).aG (.int .i64),(l.getD 1 aF.d).aG (.int .i64)⟩
 | .m6,l=>⟨(l.getD 0 aF.d).aG (.int .i64),(l.getD 1 aF.d).aG (.li .Change)⟩
 | .jP,l=>⟨(l.getD 0 aF.d).aG (.int .i64),(l.getD 1 aF.d).aG (.int .i64),(l.getD 2 aF.d).aG (.int .i64),(l.getD 3 aF.d).aG (.str),⟨(l.getD 4 aF.d).aG (.int .i64),(l.getD 5 aF.d).aG (.int .i64),(l.getD 6 aF.d).aG (.str)⟩,⟨(l.getD 7 aF.d).aG (.int .i64),(l.getD 8 aF.d).aG (.str),(l.getD 9 aF.d).aG (.str)⟩,(l.getD 10 aF.d).aG (.li .jP)⟩
 | .jn,l=>⟨⟨(l.getD 0 aF.d).aG (.int .i64),(l.getD 1 aF.d).aG (.str),(l.getD 2 aF.d).aG (.str)⟩,⟨(l.getD 3 aF.d).aG (.int .i64),(l.getD 4 aF.d).aG (.int .i64),(l.getD 5 aF.d).aG (.str)⟩,(l.getD 6 aF.d).aG (.int .i64)⟩
 | .j6,l=>⟨(l.getD 0 aF.d).aG (.str),(l.getD 1 aF.d).aG (.int .i64),⟨(l.getD 2 aF.d).aG (.int .i64),(l.getD 3 aF.d).aG (.int .i64),(l.getD 4 aF.d).aG (.int .i64),(l.getD 5 aF.d).aG (.str),⟨(l.getD 6 aF.d).aG (.int .i64),(l.getD 7 aF.d).aG (.int .i64),(l.getD 8 aF.d).aG (.str)⟩,⟨(l.getD 9 aF.d).aG (.int .i64),(l.getD 10 aF.d).aG (.str),(l.getD 11 aF.d).aG (.str)⟩,(l.getD 12 aF.d).aG (.li .jP)⟩,(l.getD 13 aF.d).aG (.bool),(l.getD 14 aF.d).aG (.li .jn),(l.getD 15 aF.d).aG (.li .jn)⟩
 | .Config,l=>⟨⟨(l.getD 0 aF.d).aG (.li .aO),(l.getD 1 aF.d).aG (.li .bA)⟩,(l.getD 2 aF.d).aG (.li .str),(l.getD 3 aF.d).aG (.li .j6),⟨(l.getD 4 aF.d).aG (.int .i64),(l.getD 5 aF.d).aG (.li .Change)⟩,(l.getD 6 aF.d).aG (.int .u64)⟩
 | .df,l=>⟨(l.getD 0 aF.d).aG (.int .i64),(l.getD 1 aF.d).aG (.int .i64)⟩
 | .br,l=>⟨(l.getD 0 aF.d).aG (.str),(l.getD 1 aF.d).aG (.int .i64),(l.getD 2 aF.d).aG (.li .df),(l.getD 3 aF.d).aG (.li .str),(l.getD 4 aF.d).aG (.bool)⟩
 | .cv,l=>⟨(l.getD 0 aF.d).aG (.int .i64),(l.getD 1 aF.d).aG (.int .u64)⟩
 | .aX,l=>⟨(l.getD 0 aF.d).aG (.str),⟨(l.getD 1 aF.d).aG (.int .i64),(l.getD 2 aF.d).aG (.int .u64)⟩⟩
 | .m7,l=>⟨(l.getD 0 aF.d).aG (.int .i64),(l.getD 1 aF.d).aG (.str),(l.getD 2 aF.d).aG (.int .i64)⟩
 | .nX,l=>⟨⟨(l.getD 0 aF.d).aG (.int .i64),(l.getD 1 aF.d).aG (.str),(l.getD 2 aF.d).aG (.str)⟩,⟨(l.getD 3 aF.d).aG (.int .i64),(l.getD 4 aF.d).aG (.int .i64),(l.getD 5 aF.d).aG (.str)⟩,⟨(l.getD 6 aF.d).aG (.int .i64),(l.getD 7 aF.d).aG (.str),(l.getD 8 aF.d).aG (.int .i64)⟩,(l.getD 9 aF.d).aG (.int .i64)⟩
 | .dS,l=>⟨(l.getD 0 aF.d).aG (.str),(l.getD 1 aF.d).aG (.int .i64),(l.getD 2 aF.d).aG (.int .i64),(l.getD 3 aF.d).aG (.int .i64)⟩
 | .Case,l=>⟨⟨⟨(l.getD 0 aF.d).aG (.li .aO),(l.getD 1 aF.d).aG (.li .bA)⟩,(l.getD 2 aF.d).aG (.li .str),(l.getD 3 aF.d).aG (.li .j6),⟨(l.getD 4 aF.d).aG (.int .i64),(l.getD 5 aF.d).aG (.li .Change)⟩,(l.getD 6 aF.d).aG (.int .u64)⟩,(l.getD 7 aF.d).aG (.li .br),(l.getD 8 aF.d).aG (.li .aX),(l.getD 9 aF.d).aG (.li .i64),⟨(l.getD 10 aF.d).aG (.str),⟨(l.getD 11 aF.d).aG (.int .i64),(l.getD 12 aF.d).aG (.int .i64),⟨(l.getD 13 aF.d).aG (.int .i64),(l.getD 14 aF.d).aG (.str),(l.getD 15 aF.d).aG (.str)⟩,(l.getD 16 aF.d).aG (.str),⟨(l.getD 17 aF.d).aG (.int .i64),(l.getD 18 aF.d).aG (.int .i64),(l.getD 19 aF.d).aG (.str)⟩,(l.getD 20 aF.d).aG (.str)⟩⟩,(l.getD 21 aF.d).aG (.int .i64),(l.getD 22 aF.d).aG (.int .i64)⟩
 | .Rd,l=>⟨(l.getD 0 aF.d).aG (.str),(l.getD 1 aF.d).aG (.int .i64),(l.getD 2 aF.d).aG (.bool)⟩
 | .dA,l=>⟨(l.getD 0 aF.d).aG (.str),(l.getD 1 aF.d).aG (.int .i64),(l.getD 2 aF.d).aG (.int .i64),(l.getD 3 aF.d).aG (.bool)⟩
def ck(i:bR)(x:fS i):List ba:=(lR i x).map aF.av
def b4:bR→Nat
 | .str=>1
 | .i64=>1
 | .bool=>1
 | .u8=>1
 | .c6=>3
 | .cd=>3
 | .m5=>3
 | .bQ=>10
 | .gl=>11
 | .nW=>23
 | .cX=>3
 | .Attr=>7
 | .Command=>9
 | .aO=>4
 | .bA=>7
 | .Home=>2
 | .Change=>2
 | .m6=>2
 | .jP=>11
 | .jn=>7
 | .j6=>16
 | .Config=>7
 | .df=>2
 | .br=>5
 | .cv=>2
 | .aX=>3
 | .m7=>3
 | .nX=>10
 | .dS=>4
 | .Case=>23
 | .Rd=>3
 | .dA=>4
theorem Ma(i:bR)(x:fS i):(lR i x).map aF.r=eV i:=by cases i<;>rfl
theorem EA(i:bR)(x:fS i):(ck i x).length=b4 i:=by cases i<;>rfl
theorem A4(d:aF):(⟨d.r,d.aG d.r⟩:aF)=d:=by
 unfold aF.aG
 split
 ·rfl
 ·rename_i h _;exact absurd rfl h
theorem EB{d:aF}{r:aW}(h:d.r=r):(⟨r,d.aG r⟩:aF)=d:=by subst h;exact A4 d
theorem mF{α β:Type}{f:α→β}{l:List α}(h:l.map f=[]):l=[]:=by cases l<;>simp_all
theorem lS{α β:Type}{f:α→β}{l:List α}{b:β}{cM:List β}(h:l.map f=b::cM): ∃a h7,l=a::h7∧f a=b∧h7.map f=cM:=by
 cases l with
 |nil=>cases h
 |cons a h7=>simp only[List.map_cons,List.cons.injEq]at h;exact⟨a,h7,rfl,h.1,h.2⟩
theorem EC(i:bR)(l:List aF)(h:l.map aF.r=eV i):lR i (ph i l)=l:=by
 cases i<;>simp only[eV]at h<;>(repeat (obtain⟨_,_,rfl,ag,h⟩:=lS h;rw[←EB ag];clear ag))<;>(cases mF h)<;>rfl
def zgn:List Nat:=[183,117]
end Go.aN
