/- Conditions: none. -/
import Derived.WalkKit
import Derived.KernelRfl
namespace Go.eT
open Go
structure dH where
 kind:Int
 n:Int
 s:ByteArray
structure nZ where
 dev:Int
 oG:ByteArray
 attr:ByteArray
structure qa where
 dev:Int
 oG:ByteArray
 name:ByteArray
structure n4 where
 kind:Int
 attr:ByteArray
 n:Int
structure Attr where
 name:ByteArray
 kind:Int
 min:Int
 max:Int
 enum:List ByteArray
 zhL:Bool
 safety:Bool
structure Command where
 name:ByteArray
 param:Attr
 zhM:List n4
structure lE where
 name:ByteArray
 attrs:List Attr
 commands:List Command
 events:List ByteArray
structure lF where
 id:Int
 zhN:Int
 zhO:Int
 zhP:Bool
 zhQ:Int
 room:ByteArray
 Om:List ByteArray
structure Home where
 Om:List lE
 zhR:List lF
structure Change where
 at_:Int
 offset:Int
structure p8 where
 offset:Int
 changes:List Change
structure jL where
 kind:Int
 n:Int
 m:Int
 name:ByteArray
 value:dH
 key:nZ
 kids:List jL
structure bB where
 key:nZ
 value:dH
 version:Int
structure n1 where
 name:ByteArray
 zhS:Int
 when:jL
 zhT:Bool
 force:List bB
 zhU:List bB
structure Config where
 home:Home
 On:List ByteArray
 zhV:List n1
 zhW:p8
 key:Int
structure c0 where
 from_:Int
 nP:Int
structure b2 where
 name:ByteArray
 role:Int
 iy:List c0
 kZ:List ByteArray
 home:Bool
structure p9 where
 top:Int
 bits:Int
structure de where
 hs:ByteArray
 iU:p9
structure bf where
 dev:Int
 gz:Int
 version:Int
 reported:List bB
 kb:List bB
 want:Int
 done:Int
 mJ:Int
 heard:Int
structure cG where
 name:ByteArray
 items:List bB
structure n2 where
 kind:Int
 key:nZ
 event:qa
 name:ByteArray
 n:Int
 m:Int
structure n3 where
 kind:Int
 key:nZ
 name:ByteArray
 expr:jL
structure q0 where
 name:ByteArray
 priority:Int
 on:List n2
 zhX:jL
 zhY:List n3
structure qY where
 home:Home
 On:List ByteArray
 eh:List ByteArray
structure qZ where
 kind:Int
 text:ByteArray
 at_:Int
structure aY where
 gz:Int
 mode:ByteArray
 bm:List bf
 ic:List ByteArray
 members:List b2
 eW:List de
 source:ByteArray
 eh:List cG
 next:Int
 iH:List Int
structure Rd where
 rest:ByteArray
 err:Int
 made:Bool
structure bh where
 s:ByteArray
 at_:Int
 bad:Int
 made:Bool
end Go.eT
namespace Go.aH
open Go Go.eT
inductive bZ where
 |str
 |i64
 |bool
 |u8
 |dH
 |nZ
 |qa
 |n4
 |Attr
 |Command
 |lE
 |lF
 |Home
 |Change
 |p8
 |jL
 |bB
 |n1
 |Config
 |c0
 |b2
 |p9
 |de
 |bf
 |cG
 |n2
 |n3
 |q0
 |qY
 |qZ
 |aY
 |Rd
 |bh
 deriving DecidableEq
def zhZ:List bZ:=[.str,.i64,.bool,.u8,.dH,.nZ,.qa,.n4,.Attr,.Command,.lE,.lF,.Home,.Change,.p8,.jL,.bB,.n1,.Config,.c0,.b2,.p9,.de,.bf,.cG,.n2,.n3,.q0,.qY,.qZ,.aY,.Rd,.bh]
@[reducible] def hY:bZ->Type
 | .str=>ByteArray| .i64=>Int| .bool=>Bool| .u8=>Int| .dH=>dH| .nZ=>nZ| .qa=>qa| .n4=>n4| .Attr=>Attr| .Command=>Command| .lE=>lE| .lF=>lF| .Home=>Home| .Change=>Change| .p8=>p8| .jL=>jL| .bB=>bB| .n1=>n1| .Config=>Config| .c0=>c0| .b2=>b2| .p9=>p9| .de=>de| .bf=>bf| .cG=>cG| .n2=>n2| .n3=>n3| .q0=>q0| .qY=>qY| .qZ=>qZ| .aY=>aY| .Rd=>Rd| .bh=>bh
def aZ:(i:bZ)->hY i
 | .str=>⟨#[]⟩| .i64=>0| .bool=>false| .u8=>0| .dH=>⟨0,0,⟨#[]⟩⟩| .nZ=>⟨0,⟨#[]⟩,⟨#[]⟩⟩| .qa=>⟨0,⟨#[]⟩,⟨#[]⟩⟩| .n4=>⟨0,⟨#[]⟩,0⟩| .Attr=>⟨⟨#[]⟩,0,0,0,[],false,false⟩| .Command=>⟨⟨#[]⟩,⟨⟨#[]⟩,0,0,0,[],false,false⟩,[]⟩| .lE=>⟨⟨#[]⟩,[],[],[]⟩| .lF=>⟨0,0,0,false,0,⟨#[]⟩,[]⟩| .Home=>⟨[],[]⟩| .Change=>⟨0,0⟩| .p8=>⟨0,[]⟩| .jL=>⟨0,0,0,⟨#[]⟩,⟨0,0,⟨#[]⟩⟩,⟨0,⟨#[]⟩,⟨#[]⟩⟩,[]⟩| .bB=>⟨⟨0,⟨#[]⟩,⟨#[]⟩⟩,⟨0,0,⟨#[]⟩⟩,0⟩| .n1=>⟨⟨#[]⟩,0,⟨0,0,0,⟨#[]⟩,⟨0,0,⟨#[]⟩⟩,⟨0,⟨#[]⟩,⟨#[]⟩⟩,[]⟩,false,[],[]⟩| .Config=>⟨⟨[],[]⟩,[],[],⟨0,[]⟩,0⟩| .c0=>⟨0,0⟩| .b2=>⟨⟨#[]⟩,0,[],[],false⟩| .p9=>⟨0,0⟩| .de=>⟨⟨#[]⟩,⟨0,0⟩⟩| .bf=>⟨0,0,0,[],[],0,0,0,0⟩| .cG=>⟨⟨#[]⟩,[]⟩| .n2=>⟨0,⟨0,⟨#[]⟩,⟨#[]⟩⟩,⟨0,⟨#[]⟩,⟨#[]⟩⟩,⟨#[]⟩,0,0⟩| .n3=>⟨0,⟨0,⟨#[]⟩,⟨#[]⟩⟩,⟨#[]⟩,⟨0,0,0,⟨#[]⟩,⟨0,0,⟨#[]⟩⟩,⟨0,⟨#[]⟩,⟨#[]⟩⟩,[]⟩⟩| .q0=>⟨⟨#[]⟩,0,[],⟨0,0,0,⟨#[]⟩,⟨0,0,⟨#[]⟩⟩,⟨0,⟨#[]⟩,⟨#[]⟩⟩,[]⟩,[]⟩| .qY=>⟨⟨[],[]⟩,[],[]⟩| .qZ=>⟨0,⟨#[]⟩,0⟩| .aY=>⟨0,⟨#[]⟩,[],[],[],[],⟨#[]⟩,[],0,[]⟩| .Rd=>⟨⟨#[]⟩,0,false⟩| .bh=>⟨⟨#[]⟩,0,0,false⟩
inductive a6 where
 |int (k:IntKind)
 |bool
 |str
 |li (c:bZ)
 |st (c:bZ)
 |E2 (x y:a6)
 |un
 |mp (k v:a6)
 deriving DecidableEq
@[reducible] def a6.den:a6->Type
 | .int _=>Int| .bool=>Bool| .str=>ByteArray| .li c=>List (hY c)| .st c=>hY c| .E2 x y=>x.den × y.den| .un=>Unit| .mp k v=>List (k.den × v.den)
def a6.gL:(r:a6)->r.den
 | .int _=>(0:Int)| .bool=>false| .str=>(⟨#[]⟩:ByteArray)| .li c=>([]:List (hY c))| .st c=>aZ c| .E2 x y=>(x.gL,y.gL)| .un=>()| .mp k v=>([]:List (k.den × v.den))
structure aK where
 r:a6
 v:r.den
def aK.d:aK:=⟨.un,()⟩
def aK.aI(r:a6)(d:aK):r.den:=
 match decEq d.r r with
 | .isTrue h=>h ▸ d.v| .isFalse _=>r.gL
inductive a7 where
 |v (x:Value)
 |ptr (cs:List a7)
 |aq (n:Nat) (es:List (List a7))
 |mp (agg:Bool) (ks:List Value) (vs:List (List a7))
 |li (i:bZ) (l:List (hY i))
 |eE (t:TypeId) (agg:Bool) (cs:List a7)
def mP:(r:a6)->r.den->a7
 | .int k,n=>.v (.int k n)| .bool,b=>.v (.bool b)| .str,x=>.v (.string x)| .li c,l=>.li c l|_,_=>.v undef
def n6:(r:a6)->r.den->Value
 | .int k,n=>.int k n| .bool,b=>.bool b| .str,x=>.string x|_,_=>undef
def a6.agg:a6->Bool
 | .st _=>true|_=>false
end Go.aH
namespace Go.eT
open Go Go.aH
def dH.dL(x:dH):List aK:=[⟨.int .i64,x.kind⟩,⟨.int .i64,x.n⟩,⟨.str,x.s⟩]
def nZ.dL(x:nZ):List aK:=[⟨.int .i64,x.dev⟩,⟨.str,x.oG⟩,⟨.str,x.attr⟩]
def qa.dL(x:qa):List aK:=[⟨.int .i64,x.dev⟩,⟨.str,x.oG⟩,⟨.str,x.name⟩]
def n4.dL(x:n4):List aK:=[⟨.int .i64,x.kind⟩,⟨.str,x.attr⟩,⟨.int .i64,x.n⟩]
def Attr.dL(x:Attr):List aK:=[⟨.str,x.name⟩,⟨.int .i64,x.kind⟩,⟨.int .i64,x.min⟩,⟨.int .i64,x.max⟩,⟨.li .str,x.enum⟩,⟨.bool,x.zhL⟩,⟨.bool,x.safety⟩]
def Command.dL(x:Command):List aK:=⟨.str,x.name⟩::(x.param.dL++[⟨.li .n4,x.zhM⟩])
def lE.dL(x:lE):List aK:=[⟨.str,x.name⟩,⟨.li .Attr,x.attrs⟩,⟨.li .Command,x.commands⟩,⟨.li .str,x.events⟩]
def lF.dL(x:lF):List aK:=[⟨.int .i64,x.id⟩,⟨.int .u64,x.zhN⟩,⟨.int .i64,x.zhO⟩,⟨.bool,x.zhP⟩,⟨.int .i64,x.zhQ⟩,⟨.str,x.room⟩,⟨.li .str,x.Om⟩]
def Home.dL(x:Home):List aK:=[⟨.li .lE,x.Om⟩,⟨.li .lF,x.zhR⟩]
def Change.dL(x:Change):List aK:=[⟨.int .i64,x.at_⟩,⟨.int .i64,x.offset⟩]
def p8.dL(x:p8):List aK:=[⟨.int .i64,x.offset⟩,⟨.li .Change,x.changes⟩]
def jL.dL(x:jL):List aK:=⟨.int .i64,x.kind⟩::⟨.int .i64,x.n⟩::⟨.int .i64,x.m⟩::⟨.str,x.name⟩::(x.value.dL++(x.key.dL++[⟨.li .jL,x.kids⟩]))
def bB.dL(x:bB):List aK:=(x.key.dL++(x.value.dL++[⟨.int .i64,x.version⟩]))
def n1.dL(x:n1):List aK:=⟨.str,x.name⟩::⟨.int .i64,x.zhS⟩::(x.when.dL++[⟨.bool,x.zhT⟩,⟨.li .bB,x.force⟩,⟨.li .bB,x.zhU⟩])
def Config.dL(x:Config):List aK:=(x.home.dL++⟨.li .str,x.On⟩::⟨.li .n1,x.zhV⟩::(x.zhW.dL++[⟨.int .u64,x.key⟩]))
def c0.dL(x:c0):List aK:=[⟨.int .i64,x.from_⟩,⟨.int .i64,x.nP⟩]
def b2.dL(x:b2):List aK:=[⟨.str,x.name⟩,⟨.int .i64,x.role⟩,⟨.li .c0,x.iy⟩,⟨.li .str,x.kZ⟩,⟨.bool,x.home⟩]
def p9.dL(x:p9):List aK:=[⟨.int .i64,x.top⟩,⟨.int .u64,x.bits⟩]
def de.dL(x:de):List aK:=⟨.str,x.hs⟩::x.iU.dL
def bf.dL(x:bf):List aK:=[⟨.int .i64,x.dev⟩,⟨.int .i64,x.gz⟩,⟨.int .i64,x.version⟩,⟨.li .bB,x.reported⟩,⟨.li .bB,x.kb⟩,⟨.int .i64,x.want⟩,⟨.int .i64,x.done⟩,⟨.int .i64,x.mJ⟩,⟨.int .i64,x.heard⟩]
def cG.dL(x:cG):List aK:=[⟨.str,x.name⟩,⟨.li .bB,x.items⟩]
def n2.dL(x:n2):List aK:=⟨.int .i64,x.kind⟩::(x.key.dL++(x.event.dL++[⟨.str,x.name⟩,⟨.int .i64,x.n⟩,⟨.int .i64,x.m⟩]))
def n3.dL(x:n3):List aK:=⟨.int .i64,x.kind⟩::(x.key.dL++⟨.str,x.name⟩::x.expr.dL)
def q0.dL(x:q0):List aK:=⟨.str,x.name⟩::⟨.int .i64,x.priority⟩::⟨.li .n2,x.on⟩::(x.zhX.dL++[⟨.li .n3,x.zhY⟩])
def qY.dL(x:qY):List aK:=(x.home.dL++[⟨.li .str,x.On⟩,⟨.li .str,x.eh⟩])
def qZ.dL(x:qZ):List aK:=[⟨.int .i64,x.kind⟩,⟨.str,x.text⟩,⟨.int .i64,x.at_⟩]
def aY.dL(x:aY):List aK:=[⟨.int .i64,x.gz⟩,⟨.str,x.mode⟩,⟨.li .bf,x.bm⟩,⟨.li .str,x.ic⟩,⟨.li .b2,x.members⟩,⟨.li .de,x.eW⟩,⟨.str,x.source⟩,⟨.li .cG,x.eh⟩,⟨.int .i64,x.next⟩,⟨.li .i64,x.iH⟩]
def Rd.dL(x:Rd):List aK:=[⟨.str,x.rest⟩,⟨.int .i64,x.err⟩,⟨.bool,x.made⟩]
def bh.dL(x:bh):List aK:=[⟨.str,x.s⟩,⟨.int .i64,x.at_⟩,⟨.int .i64,x.bad⟩,⟨.bool,x.made⟩]
end Go.eT
namespace Go.aH
open Go Go.eT
def hN:(i:bZ)->hY i->List aK
 | .str,x=>[⟨.str,x⟩]| .i64,x=>[⟨.int .i64,x⟩]| .bool,x=>[⟨.bool,x⟩]| .u8,x=>[⟨.int .u8,x⟩]| .dH,x=>x.dL| .nZ,x=>x.dL| .qa,x=>x.dL| .n4,x=>x.dL| .Attr,x=>x.dL| .Command,x=>x.dL| .lE,x=>x.dL| .lF,x=>x.dL| .Home,x=>x.dL| .Change,x=>x.dL| .p8,x=>x.dL| .jL,x=>x.dL| .bB,x=>x.dL| .n1,x=>x.dL| .Config,x=>x.dL| .c0,x=>x.dL| .b2,x=>x.dL| .p9,x=>x.dL| .de,x=>x.dL| .bf,x=>x.dL| .cG,x=>x.dL| .n2,x=>x.dL| .n3,x=>x.dL| .q0,x=>x.dL| .qY,x=>x.dL| .qZ,x=>x.dL| .aY,x=>x.dL| .Rd,x=>x.dL| .bh,x=>x.dL
def kI:(r:a6)->r.den->List a7
 | .st c,x=>(hN c x).map λd=>mP d.r d.v
 |r,x=>[mP r x]
def hb:(r:a6)->r.den->a7
 | .mp k v,l=>.mp v.agg (l.map λp=>n6 k p.1) (l.map λp=>kI v p.2)
 |r,x=>mP r x
def aK.ad(d:aK):a7:=hb d.r d.v
def fR:bZ->List a6
 | .str=>[.str]| .i64=>[.int .i64]| .bool=>[.bool]| .u8=>[.int .u8]| .dH=>[.int .i64,.int .i64,.str]| .nZ=>[.int .i64,.str,.str]| .qa=>[.int .i64,.str,.str]| .n4=>[.int .i64,.str,.int .i64]| .Attr=>[.str,.int .i64,.int .i64,.int .i64,.li .str,.bool,.bool]| .Command=>[.str,.str,.int .i64,.int .i64,.int .i64,.li .str,.bool,.bool,.li .n4]| .lE=>[.str,.li .Attr,.li .Command,.li .str]| .lF=>[.int .i64,.int .u64,.int .i64,.bool,.int .i64,.str,.li .str]| .Home=>[.li .lE,.li .lF]| .Change=>[.int .i64,.int .i64]| .p8=>[.int .i64,.li .Change]| .jL=>[.int .i64,.int .i64,.int .i64,.str,.int .i64,.int .i64,.str,.int .i64,.str,.str,.li .jL]| .bB=>[.int .i64,.str,.str,.int .i64,.int .i64,.str,.int .i64]| .n1=>[.str,.int .i64,.int .i64,.int .i64,.int .i64,.str,.int .i64,.int .i64,.str,.int .i64,.str,.str,.li .jL,.bool,.li .bB,.li .bB]| .Config=>[.li .lE,.li .lF,.li .str,.li .n1,.int .i64,.li .Change,.int .u64]| .c0=>[.int .i64,.int .i64]| .b2=>[.str,.int .i64,.li .c0,.li .str,.bool]| .p9=>[.int .i64,.int .u64]| .de=>[.str,.int .i64,.int .u64]| .bf=>[.int .i64,.int .i64,.int .i64,.li .bB,.li .bB,.int .i64,.int .i64,.int .i64,.int .i64]| .cG=>[.str,.li .bB]| .n2=>[.int .i64,.int .i64,.str,.str,.int .i64,.str,.str,.str,.int .i64,.int .i64]| .n3=>[.int .i64,.int .i64,.str,.str,.str,.int .i64,.int .i64,.int .i64,.str,.int .i64,.int .i64,.str,.int .i64,.str,.str,.li .jL]| .q0=>[.str,.int .i64,.li .n2,.int .i64,.int .i64,.int .i64,.str,.int .i64,.int .i64,.str,.int .i64,.str,.str,.li .jL,.li .n3]| .qY=>[.li .lE,.li .lF,.li .str,.li .str]| .qZ=>[.int .i64,.str,.int .i64]| .aY=>[.int .i64,.str,.li .bf,.li .str,.li .b2,.li .de,.str,.li .cG,.int .i64,.li .i64]| .Rd=>[.str,.int .i64,.bool]| .bh=>[.str,.int .i64,.int .i64,.bool]
def so:(i:bZ)->List aK->hY i
 | .str,l=>(l.getD 0 aK.d).aI (.str)| .i64,l=>(l.getD 0 aK.d).aI (.int .i64)| .bool,l=>(l.getD 0 aK.d).aI (.bool)| .u8,l=>(l.getD 0 aK.d).aI (.int .u8)| .dH,l=>⟨(l.getD 0 aK.d).aI (.int .i64),(l.getD 1 aK.d).aI (.int .i64),(l.getD 2 aK.d).aI (.str)⟩| .nZ,l=>⟨(l.getD 0 aK.d).aI (.int .i64),(l.getD 1 aK.d).aI (.str),(l.getD 2 aK.d).aI (.str)⟩| .qa,l=>⟨(l.getD 0 aK.d).aI (.int .i64),(l.getD 1 aK.d).aI (.str),(l.getD 2 aK.d).aI (.str)⟩| .n4,l=>⟨(l.getD 0 aK.d).aI (.int .i64),(l.getD 1 aK.d).aI (.str),(l.getD 2 aK.d).aI (.int .i64)⟩| .Attr,l=>⟨(l.getD 0 aK.d).aI (.str),(l.getD 1 aK.d).aI (.int .i64),(l.getD 2 aK.d).aI (.int .i64),(l.getD 3 aK.d).aI (.int .i64),(l.getD 4 aK.d).aI (.li .str),(l.getD 5 aK.d).aI (.bool),(l.getD 6 aK.d).aI (.bool)⟩| .Command,l=>⟨(l.getD 0 aK.d).aI (.str),⟨(l.getD 1 aK.d).aI (.str),(l.getD 2 aK.d).aI (.int .i64),(l.getD 3 aK.d).aI (.int .i64),(l.getD 4 aK.d).aI (.int .i64),(l.getD 5 aK.d).aI (.li .str),(l.getD 6 aK.d).aI (.bool),(l.getD 7 aK.d).aI (.bool)⟩,(l.getD 8 aK.d).aI (.li .n4)⟩| .lE,l=>⟨(l.getD 0 aK.d).aI (.str),(l.getD 1 aK.d).aI (.li .Attr),(l.getD 2 aK.d).aI (.li .Command),(l.getD 3 aK.d).aI (.li .str)⟩| .lF,l=>⟨(l.getD 0 aK.d).aI (.int .i64),(l.getD 1 aK.d).aI (.int .u64),(l.getD 2 aK.d).aI (.int .i64),(l.getD 3 aK.d).aI (.bool),(l.getD 4 aK.d).aI (.int .i64),(l.getD 5 aK.d).aI (.str),(l.getD 6 aK.d).aI (.li .str)⟩| .Home,l=>⟨(l.getD 0 aK.d).aI (.li .lE),(l.getD 1 aK.d).aI (.li .lF)⟩| .Change,l=>⟨(l.getD 0 aK.d).aI (.int .i64),(l.getD 1 aK.d).aI (.int .i64)⟩| .p8,l=>⟨(l.getD 0 aK.d).aI (.int .i64),(l.getD 1 aK.d).aI (.li .Change)⟩| .jL,l=>⟨(l.getD 0 aK.d).aI (.int .i64),(l.getD 1 aK.d).aI (.int .i64),(l.getD 2 aK.d).aI (.int .i64),(l.getD 3 aK.d).aI (.str),⟨(l.getD 4 aK.d).aI (.int .i64),(l.getD 5 aK.d).aI (.int .i64),(l.getD 6 aK.d).aI (.str)⟩,⟨(l.getD 7 aK.d).aI (.int .i64),(l.getD 8 aK.d).aI (.str),(l.getD 9 aK.d).aI (.str)⟩,(l.getD 10 aK.d).aI (.li .jL)⟩
 | .bB,l=>⟨⟨(l.getD 0 aK.d).aI (.int .i64),(l.getD 1 aK.d).aI (.str),(l.getD 2 aK.d).aI (.str)⟩,⟨(l.getD 3 aK.d).aI (.int .i64),(l.getD 4 aK.d).aI (.int .i64),(l.getD 5 aK.d).aI (.str)⟩,(l.getD 6 aK.d).aI (.int .i64)⟩| .n1,l=>⟨(l.getD 0 aK.d).aI (.str),(l.getD 1 aK.d).aI (.int .i64),⟨(l.getD 2 aK.d).aI (.int .i64),(l.getD 3 aK.d).aI (.int .i64),(l.getD 4 aK.d).aI (.int .i64),(l.getD 5 aK.d).aI (.str),⟨(l.getD 6 aK.d).aI (.int .i64),(l.getD 7 aK.d).aI (.int .i64),(l.getD 8 aK.d).aI (.str)⟩,⟨(l.getD 9 aK.d).aI (.int .i64),(l.getD 10 aK.d).aI (.str),(l.getD 11 aK.d).aI (.str)⟩,(l.getD 12 aK.d).aI (.li .jL)⟩,(l.getD 13 aK.d).aI (.bool),(l.getD 14 aK.d).aI (.li .bB),(l.getD 15 aK.d).aI (.li .bB)⟩| .Config,l=>⟨⟨(l.getD 0 aK.d).aI (.li .lE),(l.getD 1 aK.d).aI (.li .lF)⟩,(l.getD 2 aK.d).aI (.li .str),(l.getD 3 aK.d).aI (.li .n1),⟨(l.getD 4 aK.d).aI (.int .i64),(l.getD 5 aK.d).aI (.li .Change)⟩,(l.getD 6 aK.d).aI (.int .u64)⟩| .c0,l=>⟨(l.getD 0 aK.d).aI (.int .i64),(l.getD 1 aK.d).aI (.int .i64)⟩| .b2,l=>⟨(l.getD 0 aK.d).aI (.str),(l.getD 1 aK.d).aI (.int .i64),(l.getD 2 aK.d).aI (.li .c0),(l.getD 3 aK.d).aI (.li .str),(l.getD 4 aK.d).aI (.bool)⟩| .p9,l=>⟨(l.getD 0 aK.d).aI (.int .i64),(l.getD 1 aK.d).aI (.int .u64)⟩| .de,l=>⟨(l.getD 0 aK.d).aI (.str),⟨(l.getD 1 aK.d).aI (.int .i64),(l.getD 2 aK.d).aI (.int .u64)⟩⟩| .bf,l=>⟨(l.getD 0 aK.d).aI (.int .i64),(l.getD 1 aK.d).aI (.int .i64),(l.getD 2 aK.d).aI (.int .i64),(l.getD 3 aK.d).aI (.li .bB),(l.getD 4 aK.d).aI (.li .bB),(l.getD 5 aK.d).aI (.int .i64),(l.getD 6 aK.d).aI (.int .i64),(l.getD 7 aK.d).aI (.int .i64),(l.getD 8 aK.d).aI (.int .i64)⟩| .cG,l=>⟨(l.getD 0 aK.d).aI (.str),(l.getD 1 aK.d).aI (.li .bB)⟩| .n2,l=>⟨(l.getD 0 aK.d).aI (.int .i64),⟨(l.getD 1 aK.d).aI (.int .i64),(l.getD 2 aK.d).aI (.str),(l.getD 3 aK.d).aI (.str)⟩,⟨(l.getD 4 aK.d).aI (.int .i64),(l.getD 5 aK.d).aI (.str),(l.getD 6 aK.d).aI (.str)⟩,(l.getD 7 aK.d).aI (.str),(l.getD 8 aK.d).aI (.int .i64),(l.getD 9 aK.d).aI (.int .i64)⟩
 | .n3,l=>⟨(l.getD 0 aK.d).aI (.int .i64),⟨(l.getD 1 aK.d).aI (.int .i64),(l.getD 2 aK.d).aI (.str),(l.getD 3 aK.d).aI (.str)⟩,(l.getD 4 aK.d).aI (.str),⟨(l.getD 5 aK.d).aI (.int .i64),(l.getD 6 aK.d).aI (.int .i64),(l.getD 7 aK.d).aI (.int .i64),(l.getD 8 aK.d).aI (.str),⟨(l.getD 9 aK.d).aI (.int .i64),(l.getD 10 aK.d).aI (.int .i64),(l.getD 11 aK.d).aI (.str)⟩,⟨(l.getD 12 aK.d).aI (.int .i64),(l.getD 13 aK.d).aI (.str),(l.getD 14 aK.d).aI (.str)⟩,(l.getD 15 aK.d).aI (.li .jL)⟩⟩| .q0,l=>⟨(l.getD 0 aK.d).aI (.str),(l.getD 1 aK.d).aI (.int .i64),(l.getD 2 aK.d).aI (.li .n2),⟨(l.getD 3 aK.d).aI (.int .i64),(l.getD 4 aK.d).aI (.int .i64),(l.getD 5 aK.d).aI (.int .i64),(l.getD 6 aK.d).aI (.str),⟨(l.getD 7 aK.d).aI (.int .i64),(l.getD 8 aK.d).aI (.int .i64),(l.getD 9 aK.d).aI (.str)⟩,⟨(l.getD 10 aK.d).aI (.int .i64),(l.getD 11 aK.d).aI (.str),(l.getD 12 aK.d).aI (.str)⟩,(l.getD 13 aK.d).aI (.li .jL)⟩,(l.getD 14 aK.d).aI (.li .n3)⟩| .qY,l=>⟨⟨(l.getD 0 aK.d).aI (.li .lE),(l.getD 1 aK.d).aI (.li .lF)⟩,(l.getD 2 aK.d).aI (.li .str),(l.getD 3 aK.d).aI (.li .str)⟩| .qZ,l=>⟨(l.getD 0 aK.d).aI (.int .i64),(l.getD 1 aK.d).aI (.str),(l.getD 2 aK.d).aI (.int .i64)⟩| .aY,l=>⟨(l.getD 0 aK.d).aI (.int .i64),(l.getD 1 aK.d).aI (.str),(l.getD 2 aK.d).aI (.li .bf),(l.getD 3 aK.d).aI (.li .str),(l.getD 4 aK.d).aI (.li .b2),(l.getD 5 aK.d).aI (.li .de),(l.getD 6 aK.d).aI (.str),(l.getD 7 aK.d).aI (.li .cG),(l.getD 8 aK.d).aI (.int .i64),(l.getD 9 aK.d).aI (.li .i64)⟩| .Rd,l=>⟨(l.getD 0 aK.d).aI (.str),(l.getD 1 aK.d).aI (.int .i64),(l.getD 2 aK.d).aI (.bool)⟩| .bh,l=>⟨(l.getD 0 aK.d).aI (.str),(l.getD 1 aK.d).aI (.int .i64),(l.getD 2 aK.d).aI (.int .i64),(l.getD 3 aK.d).aI (.bool)⟩
def dr(i:bZ)(x:hY i):List a7:=(hN i x).map aK.ad
def dE:bZ->Nat
 | .str=>1| .i64=>1| .bool=>1| .u8=>1| .dH=>3| .nZ=>3| .qa=>3| .n4=>3| .Attr=>7| .Command=>9| .lE=>4| .lF=>7| .Home=>2| .Change=>2| .p8=>2| .jL=>11| .bB=>7| .n1=>16| .Config=>7| .c0=>2| .b2=>5| .p9=>2| .de=>3| .bf=>9| .cG=>2| .n2=>10| .n3=>16| .q0=>15| .qY=>4| .qZ=>3| .aY=>10| .Rd=>3| .bh=>4
theorem Oo(i:bZ)(x:hY i):(hN i x).map aK.r=fR i:=by cases i<;>rfl
theorem Jn(i:bZ)(x:hY i):(dr i x).length=dE i:=by cases i<;>rfl
theorem E3(d:aK):(⟨d.r,d.aI d.r⟩:aK)=d:=by
 unfold aK.aI
 split
 ·rfl
 ·rename_i h _;exact absurd rfl h
theorem Jo{d:aK}{r:a6}(h:d.r=r):(⟨r,d.aI r⟩:aK)=d:=by subst h;exact E3 d
theorem py{α β:Type}{f:α->β}{l:List α}(h:l.map f=[]):l=[]:=by cases l<;>simp_all
theorem oP{α β:Type}{f:α->β}{l:List α}{b:β}{cM:List β}(h:l.map f=b::cM): ∃a dF,l=a::dF/\f a=b/\dF.map f=cM:=by
 cases l with
 |nil=>cases h
 |cons a dF=>simp only[List.map_cons,List.cons.injEq]at h;exact⟨a,dF,rfl,h.1,h.2⟩
theorem Jp(i:bZ)(l:List aK)(h:l.map aK.r=fR i):hN i (so i l)=l:=by
 cases i<;>simp only[fR]at h<;>(repeat (obtain⟨_,_,rfl,ah,h⟩:=oP h;rw[<-Jo ah];clear ah))<;>(cases py h)<;>rfl
def zh0:List Nat:=[]
def Oq:List bZ:=[.bf,.u8]
def Xi:List bZ:=[.bf]
end Go.aH
