/- Conditions: none. -/
import Derived.Test.YtddeffoppnlafaaGreatJPm
import Derived.Test.YtddeffoppnlafaaGreatJTEu
import Derived.Test.YtddeffoppnlafaaGreatProg
open Go Go.aH Go.eT
namespace Go.aH
def Nz:List (Nat × bZ):=[(2,.i64),(3,.i64),(4,.bool),(5,.u8),(6,.u8),(9,.str),(10,.str),(11,.str),(29,.aY),(32,.i64),(44,.bf),(47,.b2),(49,.cG),(53,.Home),(57,.p8),(60,.Config),(64,.nZ),(66,.dH),(68,.bB),(95,.p9),(97,.de),(111,.Attr),(115,.lE),(117,.lF),(130,.Rd),(143,.bh),(167,.qY),(178,.jL),(180,.n1),(200,.qZ),(209,.c0),(223,.Change),(246,.q0),(258,.qa),(260,.n2),(264,.n3),(292,.Command),(295,.n4),(360,.u8),(361,.u8)]
noncomputable def UW:bs:=⟨[.li .bB],[.bool],none,λx=>p4 x⟩
noncomputable def UX:bs:=⟨[.st .aY],[.bool],some λx=>r4 x,λx=>r5 x⟩
noncomputable def LS:bs:=⟨[],[.bool],some λx=>Nn,λx=>Nl⟩
noncomputable def UY:bs:=⟨[.li .str,.li .str],[.bool],some λx=>H8 (x.1) (x.2),λx=>m32 (x.1) (x.2)⟩
noncomputable def UZ:bs:=⟨[.li .c0,.li .c0],[.bool],some λx=>No (x.1) (x.2),λx=>D1 (x.1) (x.2)⟩
noncomputable def U0:bs:=⟨[.st .b2,.st .b2],[.bool],some λx=>H9 (x.1) (x.2),λx=>D2 (x.1) (x.2)⟩
noncomputable def U1:bs:=⟨[.li .b2,.li .b2],[.bool],some λx=>Np (x.1) (x.2),λx=>D3 (x.1) (x.2)⟩
noncomputable def U2:bs:=⟨[.li .i64,.li .i64],[.bool],some λx=>Nq (x.1) (x.2),λx=>D4 (x.1) (x.2)⟩
noncomputable def U3:bs:=⟨[.li .bB,.li .bB],[.bool],some λx=>D5 (x.1) (x.2),λx=>wU (x.1) (x.2)⟩
noncomputable def U4:bs:=⟨[.st .bf,.st .bf],[.bool],some λx=>Ia (x.1) (x.2),λx=>D6 (x.1) (x.2)⟩
noncomputable def U5:bs:=⟨[.st .aY,.st .aY],[.bool],some λx=>DZ (x.1) (x.2),λx=>D7 (x.1) (x.2)⟩
noncomputable def U6:bs:=⟨[.st .Rd],[.st .Rd,.int .i64],none,λx=>en x⟩
noncomputable def U7:bs:=⟨[.str],[.int .u64,.int .i64,.int .i64],some λx=>Nr x,λx=>D8 x⟩
noncomputable def U8:bs:=⟨[.st .Rd],[.st .Rd,.int .i64],some λx=>iJ x,λx=>ei x⟩
noncomputable def U9:bs:=⟨[.st .Rd,.int .i64],[.st .Rd,.int .i64],some λx=>k0 (x.1) (x.2),λx=>fD (x.1) (x.2)⟩
noncomputable def Va:bs:=⟨[.st .Rd,.int .i64],[.st .Rd,.str],some λx=>yD (x.1) (x.2),λx=>qP (x.1) (x.2)⟩
noncomputable def Vb:bs:=⟨[.st .Rd],[.st .Rd,.str],some λx=>r6 x,λx=>k1 x⟩
noncomputable def Vc:bs:=⟨[.st .Rd,.int .i64],[.st .Rd],none,λx=>wV (x.1) (x.2)⟩
noncomputable def Vd:bs:=⟨[.int .i64],[.bool],none,λx=>Ns x⟩
noncomputable def Ve:bs:=⟨[.st .dH],[.int .i64],none,λx=>yE x⟩
noncomputable def Vf:bs:=⟨[.st .Rd],[.st .Rd,.st .dH],some λx=>Ib x,λx=>D9 x⟩
noncomputable def Vg:bs:=⟨[.st .Rd],[.st .Rd,.st .bB],some λx=>Ba x,λx=>u3 x⟩
noncomputable def Vh:bs:=⟨[.st .Rd],[.st .Rd,.st .bf],some λx=>yF x,λx=>qR x⟩
noncomputable def Vi:bs:=⟨[.st .Rd],[.st .Rd,.st .c0],some λx=>Ic x,λx=>Ea x⟩
noncomputable def Vj:bs:=⟨[.st .Rd],[.st .Rd,.bool],some λx=>Ie x,λx=>Bb x⟩
noncomputable def Vk:bs:=⟨[.st .Rd],[.st .Rd,.st .b2],some λx=>Eb x,λx=>yG x⟩
noncomputable def Vl:bs:=⟨[.st .Rd],[.st .Rd,.st .de],some λx=>Ec x,λx=>yH x⟩
noncomputable def Vm:bs:=⟨[.st .Rd],[.st .Rd,.st .cG],some λx=>Ee x,λx=>yI x⟩
noncomputable def Vn:bs:=⟨[.st .Rd],[.st .Rd,.int .i64],none,λx=>yJ x⟩
noncomputable def Vo:bs:=⟨[.st .Rd,.int .i64],[.st .Rd,.li .i64],some λx=>Be (x.1) (x.2),λx=>wW (x.1) (x.2)⟩
noncomputable def Vp:bs:=⟨[.st .Rd],[.st .Rd,.int .i64],none,λx=>yK x⟩
noncomputable def Vq:bs:=⟨[.li .bB],[.li .bB],some λx=>Ig x,λx=>yL x⟩
noncomputable def tK:bs:=⟨[.st .aY,.str],[.st .aY,.int .i64],some λx=>DV (x.1) (x.2),λx=>wT (x.1) (x.2)⟩
noncomputable def Vr:bs:=⟨[.st .bh],[.st .bh,.int .i64],none,λx=>dz x⟩
noncomputable def Vs:bs:=⟨[.st .bh],[.st .bh,.int .i64],some λx=>hO x,λx=>dJ x⟩
noncomputable def Vt:bs:=⟨[.st .bh,.int .i64],[.st .bh,.int .i64],some λx=>qW (x.1) (x.2),λx=>hy (x.1) (x.2)⟩
noncomputable def Vu:bs:=⟨[.st .bh,.int .i64],[.st .bh,.str],some λx=>ng (x.1) (x.2),λx=>gT (x.1) (x.2)⟩
noncomputable def Vv:bs:=⟨[.st .bh,.int .i64],[.st .bh],none,λx=>tH (x.1) (x.2)⟩
noncomputable def Vw:bs:=⟨[.st .dH],[.int .i64],none,λx=>yU x⟩
noncomputable def Vx:bs:=⟨[.st .bh],[.st .bh,.st .dH],some λx=>En x,λx=>yV x⟩
noncomputable def Vy:bs:=⟨[.st .bh],[.st .bh,.li .bB],some λx=>yX x,λx=>sa x⟩
noncomputable def Vz:bs:=⟨[.st .bh],[.st .bh,.st .bf],some λx=>yY x,λx=>pk x⟩
noncomputable def VA:bs:=⟨[.st .bh],[.st .bh,.li .str],some λx=>Bf x,λx=>qX x⟩
noncomputable def VB:bs:=⟨[.st .bh],[.st .bh,.bool],some λx=>Eo x,λx=>y0 x⟩
noncomputable def VC:bs:=⟨[.st .bh],[.st .bh,.st .b2],some λx=>Ep x,λx=>w0 x⟩
noncomputable def VD:bs:=⟨[.st .bh,.int .i64],[.st .bh,.li .i64],some λx=>Es (x.1) (x.2),λx=>w1 (x.1) (x.2)⟩
noncomputable def VE:bs:=⟨[.st .bh],[.st .bh,.int .i64],none,λx=>tI x⟩
noncomputable def VF:bs:=⟨[.st .aY,.str],[.st .aY,.int .i64],some λx=>DW (x.1) (x.2),λx=>A6 (x.1) (x.2)⟩
noncomputable def VG:bs:=⟨[.int .i64],[.str],some λx=>fL x,λx=>cX x⟩
noncomputable def VH:bs:=⟨[.str],[.str],some λx=>po x,λx=>kd x⟩
noncomputable def VI:bs:=⟨[.st .dH],[.str],some λx=>IN x,λx=>y5 x⟩
noncomputable def VJ:bs:=⟨[.st .bB],[.str],some λx=>Bh x,λx=>vc x⟩
noncomputable def VK:bs:=⟨[.st .bf],[.str],some λx=>Bi x,λx=>oL x⟩
noncomputable def VL:bs:=⟨[.st .c0],[.str],some λx=>IP x,λx=>Et x⟩
noncomputable def VM:bs:=⟨[.bool],[.str],none,λx=>Eu x⟩
noncomputable def VN:bs:=⟨[.st .b2],[.str],some λx=>IQ x,λx=>Ev x⟩
noncomputable def VO:bs:=⟨[.st .de],[.str],some λx=>IS x,λx=>Ew x⟩
noncomputable def VP:bs:=⟨[.st .cG],[.str],some λx=>IT x,λx=>Ex x⟩
noncomputable def VQ:bs:=⟨[.li .i64],[.str],some λx=>IV x,λx=>IU x⟩
noncomputable def VR:bs:=⟨[.st .aY,.int .i64],[.str],some λx=>Ey (x.1) (x.2),λx=>vd (x.1) (x.2)⟩
noncomputable def VS:bs:=⟨[.st .aY,.st .aY],[.str],some λx=>DX (x.1) (x.2),λx=>A7 (x.1) (x.2)⟩
noncomputable def VT:bs:=⟨[.int .i64],[.str],some λx=>fX x,λx=>dm x⟩
noncomputable def VU:bs:=⟨[.str],[.str],some λx=>p7 x,λx=>ke x⟩
noncomputable def VV:bs:=⟨[.st .dH],[.str],some λx=>IW x,λx=>y7 x⟩
noncomputable def VW:bs:=⟨[.li .bB],[.str],some λx=>Bj x,λx=>ve x⟩
noncomputable def VX:bs:=⟨[.st .bf],[.str],some λx=>y8 x,λx=>nY x⟩
noncomputable def VY:bs:=⟨[.li .str],[.str],some λx=>Ez x,λx=>Bk x⟩
noncomputable def VZ:bs:=⟨[.bool],[.str],none,λx=>EA x⟩
noncomputable def V0:bs:=⟨[.st .b2],[.str],some λx=>IX x,λx=>EB x⟩
noncomputable def V1:bs:=⟨[.li .i64],[.str],some λx=>IZ x,λx=>IY x⟩
noncomputable def V2:bs:=⟨[.st .aY,.int .i64],[.str],some λx=>y9 (x.1) (x.2),λx=>w6 (x.1) (x.2)⟩
noncomputable def V3:bs:=⟨[.li .bf,.li .bf],[.int .i64,.str],some λx=>I0 (x.1) (x.2),λx=>EC (x.1) (x.2)⟩
noncomputable def V4:bs:=⟨[.st .aY,.st .aY],[.str],some λx=>DY (x.1) (x.2),λx=>A8 (x.1) (x.2)⟩
noncomputable def u1:bs:=⟨[.st .aY,.st .aY,.str],[.bool],some λx=>A5 (x.1) (x.2.1) (x.2.2),λx=>H7 (x.1) (x.2.1) (x.2.2)⟩
noncomputable def vf:List bs:=[UW,UX,LS,UY,UZ,U0,U1,U2,U3,U4,U5,U6,U7,U8,U9,Va,Vb,Vc,Vd,Ve,Vf,Vg,Vh,Vi,Vj,Vk,Vl,Vm,Vn,Vo,Vp,Vq,tK,Vr,Vs,Vt,Vu,Vv,Vw,Vx,Vy,Vz,VA,VB,VC,VD,VE,VF,VG,VH,VI,VJ,VK,VL,VM,VN,VO,VP,VQ,VR,VS,VT,VU,VV,VW,VX,VY,VZ,V0,V1,V2,V3,V4,u1]
def AC:List kD:=[⟨16,0,[.li .bB],[.bool],true⟩,⟨5,1,[.st .aY],[.bool],false⟩,⟨6,2,[],[.bool],false⟩,⟨32,3,[.li .str,.li .str],[.bool],false⟩,⟨140,4,[.li .c0,.li .c0],[.bool],false⟩,⟨96,5,[.st .b2,.st .b2],[.bool],false⟩,⟨31,6,[.li .b2,.li .b2],[.bool],false⟩,⟨33,7,[.li .i64,.li .i64],[.bool],false⟩,⟨35,8,[.li .bB,.li .bB],[.bool],false⟩,⟨34,9,[.st .bf,.st .bf],[.bool],false⟩,⟨11,10,[.st .aY,.st .aY],[.bool],false⟩,⟨97,12,[.str],[.int .u64,.int .i64,.int .i64],false⟩,⟨218,18,[.int .i64],[.bool],true⟩,⟨183,19,[.st .dH],[.int .i64],true⟩,⟨98,31,[.li .bB],[.li .bB],false⟩,⟨12,32,[.st .aY,.str],[.st .aY,.int .i64],false⟩,⟨182,38,[.st .dH],[.int .i64],true⟩,⟨13,47,[.st .aY,.str],[.st .aY,.int .i64],false⟩,⟨46,48,[.int .i64],[.str],false⟩,⟨80,49,[.str],[.str],false⟩,⟨141,50,[.st .dH],[.str],false⟩,⟨102,51,[.st .bB],[.str],false⟩,⟨45,52,[.st .bf],[.str],false⟩,⟨136,53,[.st .c0],[.str],false⟩,⟨137,54,[.bool],[.str],true⟩,⟨84,55,[.st .b2],[.str],false⟩,⟨86,56,[.st .de],[.str],false⟩,⟨88,57,[.st .cG],[.str],false⟩,⟨89,58,[.li .i64],[.str],false⟩,⟨28,59,[.st .aY,.int .i64],[.str],false⟩,⟨14,60,[.st .aY,.st .aY],[.str],false⟩,⟨48,61,[.int .i64],[.str],false⟩,⟨90,62,[.str],[.str],false⟩,⟨139,63,[.st .dH],[.str],false⟩,⟨94,64,[.li .bB],[.str],false⟩,⟨91,65,[.st .bf],[.str],false⟩,⟨92,66,[.li .str],[.str],false⟩,⟨138,67,[.bool],[.str],true⟩,⟨93,68,[.st .b2],[.str],false⟩,⟨95,69,[.li .i64],[.str],false⟩,⟨30,70,[.st .aY,.int .i64],[.str],false⟩,⟨47,71,[.li .bf,.li .bf],[.int .i64,.str],false⟩,⟨15,72,[.st .aY,.st .aY],[.str],false⟩,⟨4,73,[.st .aY,.st .aY,.str],[.bool],false⟩]
def NA:List mM:=[⟨37,11,130,.Rd,[],[.int .i64],true⟩,⟨36,13,130,.Rd,[],[.int .i64],false⟩,⟨99,14,130,.Rd,[.int .i64],[.int .i64],false⟩,⟨69,15,130,.Rd,[.int .i64],[.str],false⟩,⟨61,16,130,.Rd,[],[.str],false⟩,⟨100,17,130,.Rd,[.int .i64],[],true⟩,⟨181,20,130,.Rd,[],[.st .dH],false⟩,⟨127,21,130,.Rd,[],[.st .bB],false⟩,⟨63,22,130,.Rd,[],[.st .bf],false⟩,⟨129,23,130,.Rd,[],[.st .c0],false⟩,⟨130,24,130,.Rd,[],[.bool],false⟩,⟨66,25,130,.Rd,[],[.st .b2],false⟩,⟨68,26,130,.Rd,[],[.st .de],false⟩,⟨71,27,130,.Rd,[],[.st .cG],false⟩,⟨73,28,130,.Rd,[],[.int .i64],true⟩,⟨72,29,130,.Rd,[.int .i64],[.li .i64],false⟩,⟨23,30,130,.Rd,[],[.int .i64],true⟩,⟨41,33,143,.bh,[],[.int .i64],true⟩,⟨40,34,143,.bh,[],[.int .i64],false⟩,⟨43,35,143,.bh,[.int .i64],[.int .i64],false⟩,⟨74,36,143,.bh,[.int .i64],[.str],false⟩,⟨42,37,143,.bh,[.int .i64],[],true⟩,⟨133,39,143,.bh,[],[.st .dH],false⟩,⟨77,40,143,.bh,[],[.li .bB],false⟩,⟨44,41,143,.bh,[],[.st .bf],false⟩,⟨75,42,143,.bh,[],[.li .str],false⟩,⟨132,43,143,.bh,[],[.bool],false⟩,⟨76,44,143,.bh,[],[.st .b2],false⟩,⟨78,45,143,.bh,[.int .i64],[.li .i64],false⟩,⟨26,46,143,.bh,[],[.int .i64],true⟩]
@[reducible] noncomputable def c2:Program:=Go.Proofs.Tryz.prog
@[reducible] noncomputable def NB(k j:Nat):Nat->List ag->ax->aG:=NC c2 (tL.all c2 Nz) Nz (29,83,5) (ND [(38,.bf)] [(39,1,2)]) (NA.take j) (AC.take k) 16
structure c3 (G:aV) (k j:Nat):Prop where
 z:AP c2 G 29 83 5
 c:w7 c2 G vf (AC.take k)
 b:NF c2 G vf (NA.take j)
theorem V5{α:Type}{l:List α}{k:Nat}{c:α}(h:l[k]? =some c){d:α}(hd:d∈l.take (k+1)):d∈l.take k\/d=c:=by
 rw[List.take_add_one,h,Option.toList_some,List.mem_append,List.mem_singleton]at hd;exact hd
section
variable {G:aV}
theorem c3.i{k j:Nat}(h:c3 G k j):gK c2 G vf (NB k j):=V6 (Z:=(29,83,5)) zfE zfF h.z h.b h.c 16
theorem c3.dA{k j:Nat}(h:c3 G k j):gK c2 G vf (NG (NB k j)):=V7 h.i
theorem c3.cs{k j:Nat}(h:c3 G k j)(c:kD){m:bs}(av:eU c2 G c.f m)(an:AC[k]? =some c:=by kernel_rfl)(hm:fQ bs.d vf c.j=m:=by kernel_rfl)(ar:m.ps=c.ps:=by rfl)(ah:m.rs=c.rs:=by rfl)(hc:c.bX=true->m.pre=none:=by first|exact λ_=>rfl|exact λh=>by cases h):c3 G (k+1) j:=
 ⟨h.z,λd hd=>(V5 an hd).elim (h.c d) (λe=>e ▸ (by subst hm;exact⟨ar,ah,av,hc⟩)),h.b⟩
theorem c3.cM{k j:Nat}(h:c3 G k j)(c:mM){m:bs}(av:hz c2 G c.f c.t m)(an:NA[j]? =some c:=by kernel_rfl)(hm:fQ bs.d vf c.j=m:=by kernel_rfl)(ar:m.ps= .st c.c::c.ps:=by rfl)(ah:m.rs= .st c.c::c.rs:=by rfl)(hc:c.bX=true->m.pre=none:=by first|exact λ_=>rfl|exact λh=>by cases h):c3 G k (j+1):=
 ⟨h.z,h.c,λd hd=>(V5 an hd).elim (h.b d) (λe=>e ▸ (by subst hm;exact⟨ar,ah,av,hc⟩))⟩
end
end Go.aH
