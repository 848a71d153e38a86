/- Contracts: data. Conditions: none. -/
import Derived.Test.YtmkpmgfieagphaaDoorKPm
import Derived.Test.YtmkpmgfieagphaaDoorProg
open Go Go.aG Go.du
namespace Go.aG
def Ct:List (Nat × bC):=[(2,.i64),(3,.i64),(4,.bool),(5,.u8),(6,.u8),(9,.str),(10,.str),(11,.str),(25,.h2),(27,.cr),(29,.kX),(31,.ew),(33,.iQ),(35,.aT),(36,.i64),(109,.Rd),(137,.u8),(138,.u8)]
noncomputable def Cu:bc:=⟨[.st .aT],[.st .aT],none,fun x=>m13 x⟩
noncomputable def Cv:bc:=⟨[.st .aT],[.int .i64],none,fun x=>m14 x⟩
noncomputable def Cw:bc:=⟨[.int .i64],[.str],some fun x=>mI x,fun x=>fD x⟩
noncomputable def Cx:bc:=⟨[.str],[.str],some fun x=>pV x,fun x=>hl x⟩
noncomputable def Cy:bc:=⟨[.int .i64],[.bool],none,fun x=>vo x⟩
noncomputable def Cz:bc:=⟨[.st .cr],[.int .i64],none,fun x=>fL x⟩
noncomputable def CA:bc:=⟨[.st .cr],[.str],some fun x=>B7 x,fun x=>mP x⟩
noncomputable def CB:bc:=⟨[.st .ew],[.str],some fun x=>yy x,fun x=>m20 x⟩
noncomputable def CC:bc:=⟨[.st .Rd],[.st .Rd,.int .i64],none,fun x=>l7 x⟩
noncomputable def CD:bc:=⟨[.str],[.int .u64,.int .i64,.int .i64],some fun x=>BZ x,fun x=>vp x⟩
noncomputable def CE:bc:=⟨[.st .Rd],[.st .Rd,.int .i64],some fun x=>oQ x,fun x=>hJ x⟩
noncomputable def CF:bc:=⟨[.st .Rd,.int .i64],[.st .Rd,.int .i64],some fun x=>B0 (x.1) (x.2),fun x=>vq (x.1) (x.2)⟩
noncomputable def CG:bc:=⟨[.st .Rd,.int .i64],[.st .Rd,.str],some fun x=>rn (x.1) (x.2),fun x=>hY (x.1) (x.2)⟩
noncomputable def CH:bc:=⟨[.st .Rd,.int .i64],[.st .Rd],none,fun x=>yo (x.1) (x.2)⟩
noncomputable def CI:bc:=⟨[.st .Rd],[.st .Rd,.st .cr],some fun x=>yq x,fun x=>rk x⟩
noncomputable def CJ:bc:=⟨[.st .Rd],[.st .Rd,.int .i64],none,fun x=>BY x⟩
noncomputable def CK:bc:=⟨[.st .Rd],[.st .Rd,.int .i64],none,fun x=>yp x⟩
noncomputable def CL:bc:=⟨[.st .ew],[.int .i64],none,fun x=>B3 x⟩
noncomputable def CM:bc:=⟨[.st .ew],[.int .i64],none,fun x=>B4 x⟩
noncomputable def CN:bc:=⟨[.str],[.st .ew,.int .i64],some fun x=>sU x,fun x=>iP x⟩
noncomputable def CO:bc:=⟨[.int .i32],[.bool],none,fun x=>Cr x⟩
noncomputable def CP:bc:=⟨[.str],[.bool],some fun x=>sW x,fun x=>m32 x⟩
noncomputable def CQ:bc:=⟨[.str],[.bool],some fun x=>B6 x,fun x=>sX x⟩
noncomputable def CR:bc:=⟨[.st .aT],[.int .i64],some fun x=>yJ x,fun x=>m15 x⟩
noncomputable def yU:bc:=⟨[.int .i64],[.str],some fun x=>vr x,fun x=>I2 x⟩
noncomputable def CS:bc:=⟨[.int .i64],[.str],some fun x=>p6 x,fun x=>m21 x⟩
noncomputable def CT:bc:=⟨[.int .i64,.str,.str],[.str],some fun x=>yI (x.1) (x.2.1) (x.2.2),fun x=>m18 (x.1) (x.2.1) (x.2.2)⟩
noncomputable def CU:bc:=⟨[.st .h2],[.str],some fun x=>I3 x,fun x=>m16 x⟩
noncomputable def CV:bc:=⟨[.int .u8],[.str],some fun x=>rr x,fun x=>kq x⟩
noncomputable def CW:bc:=⟨[.str],[.str],some fun x=>Cb x,fun x=>yB x⟩
noncomputable def CX:bc:=⟨[.st .cr],[.str],some fun x=>yC x,fun x=>m17 x⟩
noncomputable def CY:bc:=⟨[.str],[.str],some fun x=>Cd x,fun x=>m19 x⟩
noncomputable def CZ:bc:=⟨[.st .aT],[.str,.int .i64],some fun x=>rv x,fun x=>m6 x⟩
noncomputable def C0:bc:=⟨[.str,.int .u8],[.int .i64],none,fun x=>eA (x.1) (x.2)⟩
noncomputable def C1:bc:=⟨[.int .i64],[.int .i64],none,fun x=>hq x⟩
noncomputable def C2:bc:=⟨[.str],[.int .i64,.bool],some fun x=>jD x,fun x=>fv x⟩
noncomputable def C3:bc:=⟨[.str,.int .u8],[.int .i64],none,fun x=>iA (x.1) (x.2)⟩
noncomputable def C4:bc:=⟨[.int .u8],[.int .i64],none,fun x=>gk x⟩
noncomputable def C5:bc:=⟨[.str],[.int .u8,.int .i64],some fun x=>yN x,fun x=>fp x⟩
noncomputable def C6:bc:=⟨[.str],[.str,.int .i64],some fun x=>yO x,fun x=>vG x⟩
noncomputable def C7:bc:=⟨[.str],[.str,.int .i64],some fun x=>Ch x,fun x=>oT x⟩
noncomputable def C8:bc:=⟨[.str],[.st .cr,.int .i64],some fun x=>vA x,fun x=>kr x⟩
noncomputable def C9:bc:=⟨[.str],[.int .i64,.str,.str,.bool],some fun x=>rB x,fun x=>iz x⟩
noncomputable def Da:bc:=⟨[.int .u8],[.int .i64],some fun x=>vB x,fun x=>jF x⟩
noncomputable def Db:bc:=⟨[.str],[.str,.int .i64],some fun x=>vC x,fun x=>j4 x⟩
noncomputable def Dc:bc:=⟨[.int .i64,.str],[.st .aT,.bool],some fun x=>yQ (x.1) (x.2),fun x=>m12 (x.1) (x.2)⟩
noncomputable def Dd:bc:=⟨[.str],[.st .aT,.int .i64],some fun x=>nZ x,fun x=>m5 x⟩
noncomputable def De:bc:=⟨[.str],[.li .aT,.int .i64,.int .i64],some fun x=>s6 x,fun x=>m8 x⟩
noncomputable def Df:bc:=⟨[],[.bool],some fun x=>n1,fun x=>m4⟩
noncomputable def Dg:bc:=⟨[.li .aT],[.str,.int .i64],some fun x=>yW x,fun x=>m7 x⟩
noncomputable def Dh:bc:=⟨[.li .aT,.li .aT],[.bool],some fun x=>rb (x.1) (x.2),fun x=>m9 (x.1) (x.2)⟩
noncomputable def nT:bc:=⟨[.li .aT,.str],[.bool],some fun x=>sN (x.1) (x.2),fun x=>m3 (x.1) (x.2)⟩
noncomputable def s8:List bc:=[Cu,Cv,Cw,Cx,Cy,Cz,CA,CB,CC,CD,CE,CF,CG,CH,CI,CJ,CK,CL,CM,CN,CO,CP,CQ,CR,yU,CS,CT,CU,CV,CW,CX,CY,CZ,C0,C1,C2,C3,C4,C5,C6,C7,C8,C9,Da,Db,Dc,Dd,De,Df,Dg,Dh,nT]
def AC:List hs:=[⟨13,0,[.st .aT],[.st .aT],true⟩,⟨14,1,[.st .aT],[.int .i64],true⟩,⟨37,2,[.int .i64],[.str],false⟩,⟨38,3,[.str],[.str],false⟩,⟨59,4,[.int .i64],[.bool],true⟩,⟨33,5,[.st .cr],[.int .i64],true⟩,⟨39,6,[.st .cr],[.str],false⟩,⟨20,7,[.st .ew],[.str],false⟩,⟨69,9,[.str],[.int .u64,.int .i64,.int .i64],false⟩,⟨54,17,[.st .ew],[.int .i64],true⟩,⟨56,18,[.st .ew],[.int .i64],true⟩,⟨30,19,[.str],[.st .ew,.int .i64],false⟩,⟨58,20,[.int .i32],[.bool],true⟩,⟨32,21,[.str],[.bool],false⟩,⟨34,22,[.str],[.bool],false⟩,⟨15,23,[.st .aT],[.int .i64],false⟩,⟨40,24,[.int .i64],[.str],false⟩,⟨21,25,[.int .i64],[.str],false⟩,⟨18,26,[.int .i64,.str,.str],[.str],false⟩,⟨16,27,[.st .h2],[.str],false⟩,⟨60,28,[.int .u8],[.str],false⟩,⟨35,29,[.str],[.str],false⟩,⟨17,30,[.st .cr],[.str],false⟩,⟨19,31,[.str],[.str],false⟩,⟨6,32,[.st .aT],[.str,.int .i64],false⟩,⟨63,33,[.str,.int .u8],[.int .i64],true⟩,⟨57,34,[.int .i64],[.int .i64],true⟩,⟨31,35,[.str],[.int .i64,.bool],false⟩,⟨43,36,[.str,.int .u8],[.int .i64],true⟩,⟨81,37,[.int .u8],[.int .i64],true⟩,⟨76,38,[.str],[.int .u8,.int .i64],false⟩,⟨67,39,[.str],[.str,.int .i64],false⟩,⟨45,40,[.str],[.str,.int .i64],false⟩,⟨27,41,[.str],[.st .cr,.int .i64],false⟩,⟨28,42,[.str],[.int .i64,.str,.str,.bool],false⟩,⟨46,43,[.int .u8],[.int .i64],false⟩,⟨29,44,[.str],[.str,.int .i64],false⟩,⟨12,45,[.int .i64,.str],[.st .aT,.bool],false⟩,⟨5,46,[.str],[.st .aT,.int .i64],false⟩,⟨8,47,[.str],[.li .aT,.int .i64,.int .i64],false⟩,⟨4,48,[],[.bool],false⟩,⟨7,49,[.li .aT],[.str,.int .i64],false⟩,⟨9,50,[.li .aT,.li .aT],[.bool],false⟩,⟨3,51,[.li .aT,.str],[.bool],false⟩]
def Di:List iU:=[⟨68,8,109,.Rd,[],[.int .i64],true⟩,⟨48,10,109,.Rd,[],[.int .i64],false⟩,⟨70,11,109,.Rd,[.int .i64],[.int .i64],false⟩,⟨49,12,109,.Rd,[.int .i64],[.str],false⟩,⟨71,13,109,.Rd,[.int .i64],[],true⟩,⟨50,14,109,.Rd,[],[.st .cr],false⟩,⟨72,15,109,.Rd,[],[.int .i64],true⟩,⟨52,16,109,.Rd,[],[.int .i64],true⟩]
@[reducible] noncomputable def cN:Program:=Go.Proofs.Tryd.prog
@[reducible] noncomputable def QW(k j:Nat):Nat→List ab→aq→ay:=Dj cN (n4.all cN Ct) Ct (24,64,5) (Di.take j) (AC.take k) 16
structure cU (G:aY) (k j:Nat):Prop where
 z:vE cN G 24 64 5
 c:p9 cN G s8 (AC.take k)
 b:Dk cN G s8 (Di.take j)
theorem I5{α:Type}{l:List α}{k:Nat}{c:α}(h:l[k]? =some c){d:α}(hd:d∈l.take (k+1)):d∈l.take k∨d=c:=by
 rw[List.take_add_one,h,Option.toList_some,List.mem_append,List.mem_singleton]at hd
 exact hd
section
variable {G:aY}
theorem cU.i{k j:Nat}(h:cU G k j):gC cN G s8 (QW k j):=I6 (Z:=(24,64,5)) QX h.z h.b h.c 16
theorem cU.cs{k j:Nat}(h:cU G k j)(c:hs)(m:bc)(aj:AC[k]? =some c)(hm:en bc.d s8 c.j=m)(ak:m.ps=c.ps)(ae:m.rs=c.rs)(ao:df cN G c.f m)(hc:c.eo=true→m.pre=none):cU G (k+1) j:=
 ⟨h.z,fun d hd=>(I5 aj hd).elim (h.c d) (fun e=>e ▸ (by subst hm;exact⟨ak,ae,ao,hc⟩)),h.b⟩
theorem cU.cC{k j:Nat}(h:cU G k j)(c:iU)(m:bc)(aj:Di[j]? =some c)(hm:en bc.d s8 c.j=m)(ak:m.ps= .st c.c::c.ps)(ae:m.rs= .st c.c::c.rs)(ao:lA cN G c.f c.t m)(hc:c.eo=true→m.pre=none):cU G k (j+1):=
 ⟨h.z,h.c,fun d hd=>(I5 aj hd).elim (h.b d) (fun e=>e ▸ (by subst hm;exact⟨ak,ae,ao,hc⟩))⟩
end
end Go.aG
