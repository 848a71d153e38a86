/- Contracts: data. Conditions: none. -/
import Derived.Test.YtmkpmgfieagphaaGreatDoorRPm
import Derived.Test.YtmkpmgfieagphaaGreatDoorProg
open Go Go.aM Go.ed
namespace Go.aM
def yl:List (Nat × bO):=[(2,.i64),(3,.i64),(4,.bool),(5,.u8),(6,.u8),(9,.str),(10,.str),(11,.str),(23,.h5),(25,.bI),(27,.mS),(29,.dI),(31,.jJ),(33,.aK),(34,.i64),(51,.Home),(62,.mT),(65,.Config),(70,.Case),(78,.mU),(83,.mV),(130,.nI),(132,.k0),(142,.k1),(155,.nJ),(159,.iN),(164,.iO),(168,.Attr),(189,.iP),(198,.Command),(206,.Rd),(212,.ch),(236,.k2),(261,.k3),(340,.u8),(341,.u8),(349,.js),(351,.jP),(353,.Change)]
noncomputable def FM:a1:=⟨[.int .i64],[.str],some fun x=>n8 x,fun x=>fH x⟩
noncomputable def FN:a1:=⟨[.str],[.str],some fun x=>rL x,fun x=>hB x⟩
noncomputable def FO:a1:=⟨[.int .i64],[.bool],none,fun x=>Et x⟩
noncomputable def FP:a1:=⟨[.st .bI],[.int .i64],none,fun x=>eU x⟩
noncomputable def FQ:a1:=⟨[.st .bI],[.str],some fun x=>EG x,fun x=>l0 x⟩
noncomputable def FR:a1:=⟨[.st .dI],[.str],some fun x=>AV x,fun x=>eZ x⟩
noncomputable def FT:a1:=⟨[.st .aK],[.st .aK],none,fun x=>qo x⟩
noncomputable def FU:a1:=⟨[.st .aK],[.int .i64],none,fun x=>jK x⟩
noncomputable def FV:a1:=⟨[.st .Rd],[.st .Rd,.int .i64],none,fun x=>nz x⟩
noncomputable def FW:a1:=⟨[.str],[.int .u64,.int .i64,.int .i64],some fun x=>Ev x,fun x=>xK x⟩
noncomputable def FX:a1:=⟨[.st .Rd],[.st .Rd,.int .i64],some fun x=>qi x,fun x=>iq x⟩
noncomputable def FY:a1:=⟨[.st .Rd,.int .i64],[.st .Rd,.int .i64],some fun x=>Ew (x.1) (x.2),fun x=>xM (x.1) (x.2)⟩
noncomputable def FZ:a1:=⟨[.st .Rd,.int .i64],[.st .Rd,.str],some fun x=>ti (x.1) (x.2),fun x=>iG (x.1) (x.2)⟩
noncomputable def F0:a1:=⟨[.st .Rd,.int .i64],[.st .Rd],none,fun x=>AI (x.1) (x.2)⟩
noncomputable def F1:a1:=⟨[.st .Rd],[.st .Rd,.st .bI],some fun x=>AM x,fun x=>td x⟩
noncomputable def F2:a1:=⟨[.st .Rd],[.st .Rd,.int .i64],none,fun x=>Eu x⟩
noncomputable def F3:a1:=⟨[.st .Rd],[.st .Rd,.int .i64],none,fun x=>AJ x⟩
noncomputable def F4:a1:=⟨[.st .dI],[.int .i64],none,fun x=>Ex x⟩
noncomputable def F5:a1:=⟨[.st .dI],[.int .i64],none,fun x=>Ey x⟩
noncomputable def F6:a1:=⟨[.str],[.st .dI,.int .i64],some fun x=>vk x,fun x=>hC x⟩
noncomputable def F7:a1:=⟨[.int .i32],[.bool],none,fun x=>FL x⟩
noncomputable def F8:a1:=⟨[.str],[.bool],some fun x=>vm x,fun x=>kt x⟩
noncomputable def F9:a1:=⟨[.str],[.bool],some fun x=>EE x,fun x=>vn x⟩
noncomputable def Ga:a1:=⟨[.st .aK],[.int .i64],some fun x=>Be x,fun x=>pn x⟩
noncomputable def BN:a1:=⟨[.int .i64],[.str],some fun x=>BM x,fun x=>N1 x⟩
noncomputable def Gb:a1:=⟨[.int .i64],[.str],some fun x=>r2 x,fun x=>fe x⟩
noncomputable def Gc:a1:=⟨[.int .i64,.str,.str],[.str],some fun x=>Bd (x.1) (x.2.1) (x.2.2),fun x=>gY (x.1) (x.2.1) (x.2.2)⟩
noncomputable def Gd:a1:=⟨[.st .h5],[.str],some fun x=>N2 x,fun x=>vw x⟩
noncomputable def Ge:a1:=⟨[.int .u8],[.str],some fun x=>tt x,fun x=>lz x⟩
noncomputable def Gf:a1:=⟨[.str],[.str],some fun x=>EM x,fun x=>AX x⟩
noncomputable def Gg:a1:=⟨[.st .bI],[.str],some fun x=>A0 x,fun x=>fT x⟩
noncomputable def Gh:a1:=⟨[.str],[.str],some fun x=>ET x,fun x=>tv x⟩
noncomputable def Gi:a1:=⟨[.st .aK],[.str,.int .i64],some fun x=>vu x,fun x=>m13 x⟩
noncomputable def Gj:a1:=⟨[.st .ch],[.st .ch,.int .i64],none,fun x=>mF x⟩
noncomputable def Gk:a1:=⟨[.st .ch],[.st .ch,.int .i64],some fun x=>qj x,fun x=>ir x⟩
noncomputable def Gl:a1:=⟨[.st .ch,.int .i64],[.st .ch,.int .i64],some fun x=>EB (x.1) (x.2),fun x=>xN (x.1) (x.2)⟩
noncomputable def Gm:a1:=⟨[.st .ch,.int .i64],[.st .ch,.str],some fun x=>tm (x.1) (x.2),fun x=>iH (x.1) (x.2)⟩
noncomputable def Gn:a1:=⟨[.st .bI],[.int .i64],none,fun x=>lZ x⟩
noncomputable def Gp:a1:=⟨[.st .ch,.int .i64],[.st .ch],none,fun x=>AK (x.1) (x.2)⟩
noncomputable def Gq:a1:=⟨[.st .ch],[.st .ch,.st .bI],some fun x=>AP x,fun x=>tf x⟩
noncomputable def Gr:a1:=⟨[.st .ch],[.st .ch,.int .i64],none,fun x=>AL x⟩
noncomputable def Gs:a1:=⟨[.str],[.st .dI,.int .i64],some fun x=>qk x,fun x=>nB x⟩
noncomputable def Gt:a1:=⟨[.int .i64],[.str],some fun x=>lv x,fun x=>hA x⟩
noncomputable def Gu:a1:=⟨[.str],[.str],some fun x=>rM x,fun x=>kS x⟩
noncomputable def Gv:a1:=⟨[.st .bI],[.str],some fun x=>EH x,fun x=>tq x⟩
noncomputable def Gw:a1:=⟨[.st .dI],[.str],some fun x=>EJ x,fun x=>l1 x⟩
noncomputable def Gx:a1:=⟨[.st .aK],[.st .aK],none,fun x=>xS x⟩
noncomputable def Gy:a1:=⟨[],[.li .str],none,fun x=>qp⟩
noncomputable def BP:a1:=⟨[.int .i64],[.str],some fun x=>gX x,fun x=>kW x⟩
noncomputable def Gz:a1:=⟨[.str],[.bool],some fun x=>AS x,fun x=>tn x⟩
noncomputable def GA:a1:=⟨[.int .i64,.str,.str],[.str,.int .i64],some fun x=>xV (x.1) (x.2.1) (x.2.2),fun x=>jI (x.1) (x.2.1) (x.2.2)⟩
noncomputable def GB:a1:=⟨[.int .u8],[.int .u8],some fun x=>AY x,fun x=>tr x⟩
noncomputable def GC:a1:=⟨[.str],[.str],some fun x=>AZ x,fun x=>vp x⟩
noncomputable def GD:a1:=⟨[.st .bI],[.str],some fun x=>A1 x,fun x=>pk x⟩
noncomputable def GF:a1:=⟨[.str],[.bool],some fun x=>EF x,fun x=>vo x⟩
noncomputable def GG:a1:=⟨[.str],[.str],some fun x=>A4 x,fun x=>rQ x⟩
noncomputable def GH:a1:=⟨[.st .aK],[.str,.int .i64],some fun x=>Bh x,fun x=>m14 x⟩
noncomputable def GI:a1:=⟨[.str,.int .u8],[.int .i64],none,fun x=>eV (x.1) (x.2)⟩
noncomputable def GJ:a1:=⟨[.int .i64],[.int .i64],none,fun x=>hQ x⟩
noncomputable def GK:a1:=⟨[.str],[.int .i64,.bool],some fun x=>ku x,fun x=>cK x⟩
noncomputable def GL:a1:=⟨[.str,.int .u8],[.int .i64],none,fun x=>jo (x.1) (x.2)⟩
noncomputable def GM:a1:=⟨[.int .u8],[.int .i64],none,fun x=>jq x⟩
noncomputable def GN:a1:=⟨[.str],[.int .u8,.int .i64],some fun x=>Bi x,fun x=>fI x⟩
noncomputable def GO:a1:=⟨[.str],[.str,.int .i64],some fun x=>Bj x,fun x=>x8 x⟩
noncomputable def GQ:a1:=⟨[.str],[.str,.int .i64],some fun x=>E1 x,fun x=>qu x⟩
noncomputable def GR:a1:=⟨[.str],[.st .bI,.int .i64],some fun x=>xW x,fun x=>e7 x⟩
noncomputable def GU:a1:=⟨[.str],[.int .i64,.str,.str,.bool],some fun x=>tD x,fun x=>h2 x⟩
noncomputable def GV:a1:=⟨[.int .u8],[.int .i64],some fun x=>xX x,fun x=>tJ x⟩
noncomputable def GX:a1:=⟨[.str],[.str,.int .i64],some fun x=>xY x,fun x=>gr x⟩
noncomputable def GY:a1:=⟨[.int .i64,.str],[.st .aK,.bool],some fun x=>Bm (x.1) (x.2),fun x=>mP (x.1) (x.2)⟩
noncomputable def GZ:a1:=⟨[.str],[.st .aK,.int .i64],some fun x=>x1 x,fun x=>m16 x⟩
noncomputable def G0:a1:=⟨[.str],[.li .aK,.int .i64,.int .i64],some fun x=>x2 x,fun x=>m20 x⟩
noncomputable def G1:a1:=⟨[],[.bool],some fun x=>x3,fun x=>m15⟩
noncomputable def G2:a1:=⟨[.str,.int .u8],[.str,.str],some fun x=>rZ (x.1) (x.2),fun x=>cv (x.1) (x.2)⟩
noncomputable def G3:a1:=⟨[.str],[.int .i64,.bool],some fun x=>r0 x,fun x=>hR x⟩
noncomputable def G4:a1:=⟨[.int .u8],[.int .i64],none,fun x=>hT x⟩
noncomputable def G5:a1:=⟨[.str,.int .i64],[.str,.int .i64],some fun x=>BE (x.1) (x.2),fun x=>x9 (x.1) (x.2)⟩
noncomputable def G6:a1:=⟨[.str],[.str,.int .i64],some fun x=>N3 x,fun x=>tL x⟩
noncomputable def G7:a1:=⟨[.str],[.st .bI],some fun x=>Fu x,fun x=>qA x⟩
noncomputable def G8:a1:=⟨[.str],[.st .bI,.int .i64],some fun x=>BF x,fun x=>om x⟩
noncomputable def G9:a1:=⟨[.int .u8],[.int .i64],none,fun x=>tI x⟩
noncomputable def Ha:a1:=⟨[.str],[.str,.int .i64],some fun x=>tR x,fun x=>oj x⟩
noncomputable def Hb:a1:=⟨[.str],[.st .aK],some fun x=>Fw x,fun x=>tP x⟩
noncomputable def Hc:a1:=⟨[.str],[.st .aK,.int .i64],some fun x=>BG x,fun x=>m17 x⟩
noncomputable def Hd:a1:=⟨[.li .aK],[.str,.int .i64],some fun x=>BH x,fun x=>m18 x⟩
noncomputable def He:a1:=⟨[.li .aK],[.str,.int .i64],some fun x=>BI x,fun x=>m19 x⟩
noncomputable def Hf:a1:=⟨[.str],[.li .aK,.int .i64,.int .i64],some fun x=>BL x,fun x=>m21 x⟩
noncomputable def Hg:a1:=⟨[.li .aK,.li .aK],[.bool],some fun x=>xt (x.1) (x.2),fun x=>m22 (x.1) (x.2)⟩
noncomputable def o6:a1:=⟨[.li .aK,.str],[.bool],some fun x=>va (x.1) (x.2),fun x=>m5 (x.1) (x.2)⟩
noncomputable def vI:List a1:=[FM,FN,FO,FP,FQ,FR,FT,FU,FV,FW,FX,FY,FZ,F0,F1,F2,F3,F4,F5,F6,F7,F8,F9,Ga,BN,Gb,Gc,Gd,Ge,Gf,Gg,Gh,Gi,Gj,Gk,Gl,Gm,Gn,Gp,Gq,Gr,Gs,Gt,Gu,Gv,Gw,Gx,Gy,BP,Gz,GA,GB,GC,GD,GF,GG,GH,GI,GJ,GK,GL,GM,GN,GO,GQ,GR,GU,GV,GX,GY,GZ,G0,G1,G2,G3,G4,G5,G6,G7,G8,G9,Ha,Hb,Hc,Hd,He,Hf,Hg,o6]
def AC:List hU:=[⟨93,0,[.int .i64],[.str],false⟩,⟨94,1,[.str],[.str],false⟩,⟨193,2,[.int .i64],[.bool],true⟩,⟨119,3,[.st .bI],[.int .i64],true⟩,⟨95,4,[.st .bI],[.str],false⟩,⟨28,5,[.st .dI],[.str],false⟩,⟨38,6,[.st .aK],[.st .aK],true⟩,⟨39,7,[.st .aK],[.int .i64],true⟩,⟨152,9,[.str],[.int .u64,.int .i64,.int .i64],false⟩,⟨67,17,[.st .dI],[.int .i64],true⟩,⟨69,18,[.st .dI],[.int .i64],true⟩,⟨26,19,[.str],[.st .dI,.int .i64],false⟩,⟨192,20,[.int .i32],[.bool],true⟩,⟨118,21,[.str],[.bool],false⟩,⟨120,22,[.str],[.bool],false⟩,⟨40,23,[.st .aK],[.int .i64],false⟩,⟨123,24,[.int .i64],[.str],false⟩,⟨46,25,[.int .i64],[.str],false⟩,⟨44,26,[.int .i64,.str,.str],[.str],false⟩,⟨42,27,[.st .h5],[.str],false⟩,⟨194,28,[.int .u8],[.str],false⟩,⟨121,29,[.str],[.str],false⟩,⟨43,30,[.st .bI],[.str],false⟩,⟨45,31,[.str],[.str],false⟩,⟨13,32,[.st .aK],[.str,.int .i64],false⟩,⟨50,37,[.st .bI],[.int .i64],true⟩,⟨27,41,[.str],[.st .dI,.int .i64],false⟩,⟨96,42,[.int .i64],[.str],false⟩,⟨97,43,[.str],[.str],false⟩,⟨98,44,[.st .bI],[.str],false⟩,⟨29,45,[.st .dI],[.str],false⟩,⟨47,46,[.st .aK],[.st .aK],true⟩,⟨48,47,[],[.li .str],true⟩,⟨52,48,[.int .i64],[.str],false⟩,⟨78,49,[.str],[.bool],false⟩,⟨49,50,[.int .i64,.str,.str],[.str,.int .i64],false⟩,⟨196,51,[.int .u8],[.int .u8],false⟩,⟨124,52,[.str],[.str],false⟩,⟨51,53,[.st .bI],[.str],false⟩,⟨53,54,[.str],[.bool],false⟩,⟨54,55,[.str],[.str],false⟩,⟨14,56,[.st .aK],[.str,.int .i64],false⟩,⟨204,57,[.str,.int .u8],[.int .i64],true⟩,⟨200,58,[.int .i64],[.int .i64],true⟩,⟨129,59,[.str],[.int .i64,.bool],false⟩,⟨135,60,[.str,.int .u8],[.int .i64],true⟩,⟨309,61,[.int .u8],[.int .i64],true⟩,⟨290,62,[.str],[.int .u8,.int .i64],false⟩,⟨254,63,[.str],[.str,.int .i64],false⟩,⟨198,64,[.str],[.str,.int .i64],false⟩,⟨126,65,[.str],[.st .bI,.int .i64],false⟩,⟨127,66,[.str],[.int .i64,.str,.str,.bool],false⟩,⟨199,67,[.int .u8],[.int .i64],false⟩,⟨128,68,[.str],[.str,.int .i64],false⟩,⟨56,69,[.int .i64,.str],[.st .aK,.bool],false⟩,⟨16,70,[.str],[.st .aK,.int .i64],false⟩,⟨20,71,[.str],[.li .aK,.int .i64,.int .i64],false⟩,⟨15,72,[],[.bool],false⟩,⟨62,73,[.str,.int .u8],[.str,.str],false⟩,⟨130,74,[.str],[.int .i64,.bool],false⟩,⟨310,75,[.int .u8],[.int .i64],true⟩,⟨291,76,[.str,.int .i64],[.str,.int .i64],false⟩,⟨255,77,[.str],[.str,.int .i64],false⟩,⟨201,78,[.str],[.st .bI],false⟩,⟨131,79,[.str],[.st .bI,.int .i64],false⟩,⟨202,80,[.int .u8],[.int .i64],true⟩,⟨132,81,[.str],[.str,.int .i64],false⟩,⟨57,82,[.str],[.st .aK],false⟩,⟨17,83,[.str],[.st .aK,.int .i64],false⟩,⟨18,84,[.li .aK],[.str,.int .i64],false⟩,⟨19,85,[.li .aK],[.str,.int .i64],false⟩,⟨21,86,[.str],[.li .aK,.int .i64,.int .i64],false⟩,⟨22,87,[.li .aK,.li .aK],[.bool],false⟩,⟨5,88,[.li .aK,.str],[.bool],false⟩]
def Hh:List jQ:=[⟨151,8,206,.Rd,[],[.int .i64],true⟩,⟨82,10,206,.Rd,[],[.int .i64],false⟩,⟨153,11,206,.Rd,[.int .i64],[.int .i64],false⟩,⟨83,12,206,.Rd,[.int .i64],[.str],false⟩,⟨154,13,206,.Rd,[.int .i64],[],true⟩,⟨84,14,206,.Rd,[],[.st .bI],false⟩,⟨155,15,206,.Rd,[],[.int .i64],true⟩,⟨85,16,206,.Rd,[],[.int .i64],true⟩,⟨156,33,212,.ch,[],[.int .i64],true⟩,⟨89,34,212,.ch,[],[.int .i64],false⟩,⟨157,35,212,.ch,[.int .i64],[.int .i64],false⟩,⟨90,36,212,.ch,[.int .i64],[.str],false⟩,⟨158,38,212,.ch,[.int .i64],[],true⟩,⟨91,39,212,.ch,[],[.st .bI],false⟩,⟨92,40,212,.ch,[],[.int .i64],true⟩]
@[reducible] noncomputable def b0:Program:=Go.Proofs.Tryz.prog
@[reducible] noncomputable def Wm(k j:Nat):Nat→List ab→ar→aB:=BO b0 (oo.all b0 yl) yl (60,108,5) (Hh.take j) (AC.take k) 16
structure b7 (G:a7) (k j:Nat):Prop where
 z:yi b0 G 60 108 5
 c:pw b0 G vI (AC.take k)
 b:Hi b0 G vI (Hh.take j)
theorem N4{α:Type}{l:List α}{k:Nat}{c:α}(h:l[k]? =some c){d:α}(hd:d∈l.take (k+1)):d∈l.take k∨d=c:=by
 rw[List.take_add_one,h,Option.toList_some,List.mem_append,List.mem_singleton]at hd
 exact hd
section
variable {G:a7}
theorem b7.i{k j:Nat}(h:b7 G k j):gL b0 G vI (Wm k j):=FJ (Z:=(60,108,5)) N0 h.z h.b h.c 16
theorem b7.cs{k j:Nat}(h:b7 G k j)(c:hU)(m:a1)(aj:AC[k]? =some c)(hm:eN a1.d vI c.j=m)(ak:m.ps=c.ps)(af:m.rs=c.rs)(an:ck b0 G c.f m)(hc:c.eO=true→m.pre=none):b7 G (k+1) j:=
 ⟨h.z,fun d hd=>(N4 aj hd).elim (h.c d) (fun e=>e ▸ (by subst hm;exact⟨ak,af,an,hc⟩)),h.b⟩
theorem b7.cz{k j:Nat}(h:b7 G k j)(c:jQ)(m:a1)(aj:Hh[j]? =some c)(hm:eN a1.d vI c.j=m)(ak:m.ps= .st c.c::c.ps)(af:m.rs= .st c.c::c.rs)(an:iQ b0 G c.f c.t m)(hc:c.eO=true→m.pre=none):b7 G k (j+1):=
 ⟨h.z,h.c,fun d hd=>(N4 aj hd).elim (h.b d) (fun e=>e ▸ (by subst hm;exact⟨ak,af,an,hc⟩))⟩
end
end Go.aM
