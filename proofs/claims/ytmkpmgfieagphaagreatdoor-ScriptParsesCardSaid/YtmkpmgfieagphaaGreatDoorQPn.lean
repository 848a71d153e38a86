/- Contracts: data. Conditions: none. -/
import Derived.Test.YtmkpmgfieagphaaGreatDoorQPm
import Derived.Test.YtmkpmgfieagphaaGreatDoorProg
open Go Go.aL Go.ei
namespace Go.aL
def ya:List (Nat × bN):=[(2,.i64),(3,.i64),(4,.bool),(5,.u8),(6,.u8),(9,.str),(10,.str),(11,.str),(23,.h4),(25,.bH),(27,.mK),(29,.dD),(31,.jC),(33,.bf),(34,.i64),(51,.Home),(62,.mL),(65,.Config),(70,.Case),(78,.mM),(83,.mN),(130,.nz),(132,.kX),(142,.kY),(155,.nA),(159,.iI),(164,.iJ),(168,.Attr),(189,.iK),(198,.Command),(206,.Rd),(212,.cd),(236,.kZ),(261,.k0),(340,.u8),(341,.u8),(349,.jl),(351,.jJ),(353,.Change)]
noncomputable def Fm:aW:=⟨[.int .i64],[.str],some fun x=>nZ x,fun x=>fB x⟩
noncomputable def Fo:aW:=⟨[.str],[.str],some fun x=>rF x,fun x=>hB x⟩
noncomputable def Fp:aW:=⟨[.int .i64],[.bool],none,fun x=>D8 x⟩
noncomputable def Fq:aW:=⟨[.st .bH],[.int .i64],none,fun x=>eP x⟩
noncomputable def Fs:aW:=⟨[.st .bH],[.str],some fun x=>El x,fun x=>lX x⟩
noncomputable def Ft:aW:=⟨[.st .dD],[.str],some fun x=>AM x,fun x=>eZ x⟩
noncomputable def Fu:aW:=⟨[.st .bf],[.st .bf],none,fun x=>qk x⟩
noncomputable def Fv:aW:=⟨[.st .bf],[.int .i64],none,fun x=>jE x⟩
noncomputable def Fw:aW:=⟨[.st .Rd],[.st .Rd,.int .i64],none,fun x=>nt x⟩
noncomputable def Fx:aW:=⟨[.str],[.int .u64,.int .i64,.int .i64],some fun x=>Ea x,fun x=>xD x⟩
noncomputable def Fy:aW:=⟨[.st .Rd],[.st .Rd,.int .i64],some fun x=>qe x,fun x=>il x⟩
noncomputable def Fz:aW:=⟨[.st .Rd,.int .i64],[.st .Rd,.int .i64],some fun x=>Eb (x.1) (x.2),fun x=>xF (x.1) (x.2)⟩
noncomputable def FA:aW:=⟨[.st .Rd,.int .i64],[.st .Rd,.str],some fun x=>s9 (x.1) (x.2),fun x=>iF (x.1) (x.2)⟩
noncomputable def FB:aW:=⟨[.st .Rd,.int .i64],[.st .Rd],none,fun x=>Ay (x.1) (x.2)⟩
noncomputable def FC:aW:=⟨[.st .Rd],[.st .Rd,.st .bH],some fun x=>AD x,fun x=>s5 x⟩
noncomputable def FD:aW:=⟨[.st .Rd],[.st .Rd,.int .i64],none,fun x=>D9 x⟩
noncomputable def FE:aW:=⟨[.st .Rd],[.st .Rd,.int .i64],none,fun x=>Az x⟩
noncomputable def FF:aW:=⟨[.st .dD],[.int .i64],none,fun x=>Ec x⟩
noncomputable def FG:aW:=⟨[.st .dD],[.int .i64],none,fun x=>Ed x⟩
noncomputable def FH:aW:=⟨[.str],[.st .dD,.int .i64],some fun x=>vb x,fun x=>hC x⟩
noncomputable def FI:aW:=⟨[.int .i32],[.bool],none,fun x=>Fl x⟩
noncomputable def FJ:aW:=⟨[.str],[.bool],some fun x=>vd x,fun x=>kn x⟩
noncomputable def FK:aW:=⟨[.str],[.bool],some fun x=>Ej x,fun x=>ve x⟩
noncomputable def FL:aW:=⟨[.st .bf],[.int .i64],some fun x=>A1 x,fun x=>pf x⟩
noncomputable def Br:aW:=⟨[.int .i64],[.str],some fun x=>Bq x,fun x=>No x⟩
noncomputable def FM:aW:=⟨[.int .i64],[.str],some fun x=>rU x,fun x=>e6 x⟩
noncomputable def FN:aW:=⟨[.int .i64,.str,.str],[.str],some fun x=>A0 (x.1) (x.2.1) (x.2.2),fun x=>hg (x.1) (x.2.1) (x.2.2)⟩
noncomputable def FO:aW:=⟨[.st .h4],[.str],some fun x=>Np x,fun x=>vk x⟩
noncomputable def FP:aW:=⟨[.int .u8],[.str],some fun x=>tj x,fun x=>lv x⟩
noncomputable def FQ:aW:=⟨[.str],[.str],some fun x=>Es x,fun x=>AO x⟩
noncomputable def FR:aW:=⟨[.st .bH],[.str],some fun x=>AR x,fun x=>fO x⟩
noncomputable def FT:aW:=⟨[.str],[.str],some fun x=>Ey x,fun x=>tl x⟩
noncomputable def FU:aW:=⟨[.st .bf],[.str,.int .i64],some fun x=>xP x,fun x=>m13 x⟩
noncomputable def FV:aW:=⟨[.st .cd],[.st .cd,.int .i64],none,fun x=>my x⟩
noncomputable def FW:aW:=⟨[.st .cd],[.st .cd,.int .i64],some fun x=>qf x,fun x=>im x⟩
noncomputable def FX:aW:=⟨[.st .cd,.int .i64],[.st .cd,.int .i64],some fun x=>Eg (x.1) (x.2),fun x=>xG (x.1) (x.2)⟩
noncomputable def FY:aW:=⟨[.st .cd,.int .i64],[.st .cd,.str],some fun x=>te (x.1) (x.2),fun x=>iG (x.1) (x.2)⟩
noncomputable def FZ:aW:=⟨[.st .bH],[.int .i64],none,fun x=>lW x⟩
noncomputable def F0:aW:=⟨[.st .cd,.int .i64],[.st .cd],none,fun x=>AA (x.1) (x.2)⟩
noncomputable def F1:aW:=⟨[.st .cd],[.st .cd,.st .bH],some fun x=>AG x,fun x=>s7 x⟩
noncomputable def F2:aW:=⟨[.st .cd],[.st .cd,.int .i64],none,fun x=>AB x⟩
noncomputable def F3:aW:=⟨[.str],[.st .dD,.int .i64],some fun x=>qg x,fun x=>nv x⟩
noncomputable def F4:aW:=⟨[.int .i64],[.str],some fun x=>lq x,fun x=>hA x⟩
noncomputable def F5:aW:=⟨[.str],[.str],some fun x=>rG x,fun x=>kN x⟩
noncomputable def F6:aW:=⟨[.st .bH],[.str],some fun x=>Em x,fun x=>th x⟩
noncomputable def F7:aW:=⟨[.st .dD],[.str],some fun x=>Eo x,fun x=>lY x⟩
noncomputable def F8:aW:=⟨[.st .bf],[.st .bf],none,fun x=>xL x⟩
noncomputable def F9:aW:=⟨[],[.li .str],none,fun x=>ql⟩
noncomputable def Bt:aW:=⟨[.int .i64],[.str],some fun x=>gU x,fun x=>kR x⟩
noncomputable def Ga:aW:=⟨[.str],[.bool],some fun x=>AJ x,fun x=>tf x⟩
noncomputable def Gb:aW:=⟨[.int .i64,.str,.str],[.str,.int .i64],some fun x=>xO (x.1) (x.2.1) (x.2.2),fun x=>jB (x.1) (x.2.1) (x.2.2)⟩
noncomputable def Gc:aW:=⟨[.int .u8],[.int .u8],some fun x=>AP x,fun x=>ti x⟩
noncomputable def Gd:aW:=⟨[.str],[.str],some fun x=>AQ x,fun x=>vg x⟩
noncomputable def Ge:aW:=⟨[.st .bH],[.str],some fun x=>AS x,fun x=>pd x⟩
noncomputable def Gf:aW:=⟨[.str],[.bool],some fun x=>Ek x,fun x=>vf x⟩
noncomputable def Gg:aW:=⟨[.str],[.str],some fun x=>AU x,fun x=>rK x⟩
noncomputable def Gh:aW:=⟨[.st .bf],[.str,.int .i64],some fun x=>ED x,fun x=>m14 x⟩
noncomputable def Gi:aW:=⟨[.str,.int .u8],[.int .i64],none,fun x=>gW (x.1) (x.2)⟩
noncomputable def Gj:aW:=⟨[.int .i64],[.int .i64],none,fun x=>hO x⟩
noncomputable def Gk:aW:=⟨[.str],[.int .i64,.bool],some fun x=>ko x,fun x=>cI x⟩
noncomputable def Gl:aW:=⟨[.str,.int .u8],[.int .i64],none,fun x=>kT (x.1) (x.2)⟩
noncomputable def Gm:aW:=⟨[.int .u8],[.int .i64],none,fun x=>jj x⟩
noncomputable def Gn:aW:=⟨[.str],[.int .u8,.int .i64],some fun x=>A3 x,fun x=>fC x⟩
noncomputable def Gp:aW:=⟨[.str],[.str,.int .i64],some fun x=>A4 x,fun x=>xZ x⟩
noncomputable def Gq:aW:=⟨[.str],[.str,.int .i64],some fun x=>EH x,fun x=>qo x⟩
noncomputable def Gr:aW:=⟨[.str],[.st .bH,.int .i64],some fun x=>xQ x,fun x=>e0 x⟩
noncomputable def Gs:aW:=⟨[.str],[.int .i64,.str,.str,.bool],some fun x=>tw x,fun x=>h1 x⟩
noncomputable def Gt:aW:=⟨[.int .u8],[.int .i64],some fun x=>xR x,fun x=>tE x⟩
noncomputable def Gu:aW:=⟨[.str],[.str,.int .i64],some fun x=>xS x,fun x=>gk x⟩
noncomputable def Gv:aW:=⟨[.int .i64,.str],[.st .bf,.bool],some fun x=>A7 (x.1) (x.2),fun x=>mH (x.1) (x.2)⟩
noncomputable def Gw:aW:=⟨[.str],[.st .bf,.int .i64],some fun x=>vp x,fun x=>m16 x⟩
noncomputable def Gx:aW:=⟨[.str],[.li .bf,.int .i64,.int .i64],some fun x=>Ba x,fun x=>m20 x⟩
noncomputable def Gy:aW:=⟨[],[.bool],some fun x=>xU,fun x=>m15⟩
noncomputable def Gz:aW:=⟨[.str,.int .u8],[.str,.str],some fun x=>vw (x.1) (x.2),fun x=>cY (x.1) (x.2)⟩
noncomputable def GA:aW:=⟨[.str],[.int .i64,.bool],some fun x=>rS x,fun x=>hP x⟩
noncomputable def GB:aW:=⟨[.int .u8],[.int .i64],none,fun x=>hQ x⟩
noncomputable def GC:aW:=⟨[.str,.int .i64],[.str,.int .i64],some fun x=>Bo (x.1) (x.2),fun x=>x1 (x.1) (x.2)⟩
noncomputable def GD:aW:=⟨[.str],[.str,.int .i64],some fun x=>Nq x,fun x=>tF x⟩
noncomputable def GF:aW:=⟨[.str],[.st .bH],some fun x=>E7 x,fun x=>qw x⟩
noncomputable def GG:aW:=⟨[.str],[.st .bH,.int .i64],some fun x=>Bp x,fun x=>ob x⟩
noncomputable def GH:aW:=⟨[.int .u8],[.int .i64],none,fun x=>tD x⟩
noncomputable def GI:aW:=⟨[.str],[.str,.int .i64],some fun x=>tK x,fun x=>n9 x⟩
noncomputable def GJ:aW:=⟨[.str],[.st .bf],some fun x=>E9 x,fun x=>sU x⟩
noncomputable def GK:aW:=⟨[.str],[.st .bf,.int .i64],some fun x=>DT x,fun x=>m17 x⟩
noncomputable def oZ:aW:=⟨[.str],[.bool],some fun x=>u0 x,fun x=>m4 x⟩
noncomputable def vB:List aW:=[Fm,Fo,Fp,Fq,Fs,Ft,Fu,Fv,Fw,Fx,Fy,Fz,FA,FB,FC,FD,FE,FF,FG,FH,FI,FJ,FK,FL,Br,FM,FN,FO,FP,FQ,FR,FT,FU,FV,FW,FX,FY,FZ,F0,F1,F2,F3,F4,F5,F6,F7,F8,F9,Bt,Ga,Gb,Gc,Gd,Ge,Gf,Gg,Gh,Gi,Gj,Gk,Gl,Gm,Gn,Gp,Gq,Gr,Gs,Gt,Gu,Gv,Gw,Gx,Gy,Gz,GA,GB,GC,GD,GF,GG,GH,GI,GJ,GK,oZ]
def AC:List hR:=[⟨93,0,[.int .i64],[.str],false⟩,⟨94,1,[.str],[.str],false⟩,⟨193,2,[.int .i64],[.bool],true⟩,⟨119,3,[.st .bH],[.int .i64],true⟩,⟨95,4,[.st .bH],[.str],false⟩,⟨28,5,[.st .dD],[.str],false⟩,⟨38,6,[.st .bf],[.st .bf],true⟩,⟨39,7,[.st .bf],[.int .i64],true⟩,⟨152,9,[.str],[.int .u64,.int .i64,.int .i64],false⟩,⟨67,17,[.st .dD],[.int .i64],true⟩,⟨69,18,[.st .dD],[.int .i64],true⟩,⟨26,19,[.str],[.st .dD,.int .i64],false⟩,⟨192,20,[.int .i32],[.bool],true⟩,⟨118,21,[.str],[.bool],false⟩,⟨120,22,[.str],[.bool],false⟩,⟨40,23,[.st .bf],[.int .i64],false⟩,⟨123,24,[.int .i64],[.str],false⟩,⟨46,25,[.int .i64],[.str],false⟩,⟨44,26,[.int .i64,.str,.str],[.str],false⟩,⟨42,27,[.st .h4],[.str],false⟩,⟨194,28,[.int .u8],[.str],false⟩,⟨121,29,[.str],[.str],false⟩,⟨43,30,[.st .bH],[.str],false⟩,⟨45,31,[.str],[.str],false⟩,⟨13,32,[.st .bf],[.str,.int .i64],false⟩,⟨50,37,[.st .bH],[.int .i64],true⟩,⟨27,41,[.str],[.st .dD,.int .i64],false⟩,⟨96,42,[.int .i64],[.str],false⟩,⟨97,43,[.str],[.str],false⟩,⟨98,44,[.st .bH],[.str],false⟩,⟨29,45,[.st .dD],[.str],false⟩,⟨47,46,[.st .bf],[.st .bf],true⟩,⟨48,47,[],[.li .str],true⟩,⟨52,48,[.int .i64],[.str],false⟩,⟨78,49,[.str],[.bool],false⟩,⟨49,50,[.int .i64,.str,.str],[.str,.int .i64],false⟩,⟨196,51,[.int .u8],[.int .u8],false⟩,⟨124,52,[.str],[.str],false⟩,⟨51,53,[.st .bH],[.str],false⟩,⟨53,54,[.str],[.bool],false⟩,⟨54,55,[.str],[.str],false⟩,⟨14,56,[.st .bf],[.str,.int .i64],false⟩,⟨204,57,[.str,.int .u8],[.int .i64],true⟩,⟨200,58,[.int .i64],[.int .i64],true⟩,⟨129,59,[.str],[.int .i64,.bool],false⟩,⟨135,60,[.str,.int .u8],[.int .i64],true⟩,⟨309,61,[.int .u8],[.int .i64],true⟩,⟨290,62,[.str],[.int .u8,.int .i64],false⟩,⟨254,63,[.str],[.str,.int .i64],false⟩,⟨198,64,[.str],[.str,.int .i64],false⟩,⟨126,65,[.str],[.st .bH,.int .i64],false⟩,⟨127,66,[.str],[.int .i64,.str,.str,.bool],false⟩,⟨199,67,[.int .u8],[.int .i64],false⟩,⟨128,68,[.str],[.str,.int .i64],false⟩,⟨56,69,[.int .i64,.str],[.st .bf,.bool],false⟩,⟨16,70,[.str],[.st .bf,.int .i64],false⟩,⟨20,71,[.str],[.li .bf,.int .i64,.int .i64],false⟩,⟨15,72,[],[.bool],false⟩,⟨62,73,[.str,.int .u8],[.str,.str],false⟩,⟨130,74,[.str],[.int .i64,.bool],false⟩,⟨310,75,[.int .u8],[.int .i64],true⟩,⟨291,76,[.str,.int .i64],[.str,.int .i64],false⟩,⟨255,77,[.str],[.str,.int .i64],false⟩,⟨201,78,[.str],[.st .bH],false⟩,⟨131,79,[.str],[.st .bH,.int .i64],false⟩,⟨202,80,[.int .u8],[.int .i64],true⟩,⟨132,81,[.str],[.str,.int .i64],false⟩,⟨57,82,[.str],[.st .bf],false⟩,⟨17,83,[.str],[.st .bf,.int .i64],false⟩,⟨4,84,[.str],[.bool],false⟩]
def GL:List jK:=[⟨151,8,206,.Rd,[],[.int .i64],true⟩,⟨82,10,206,.Rd,[],[.int .i64],false⟩,⟨153,11,206,.Rd,[.int .i64],[.int .i64],false⟩,⟨83,12,206,.Rd,[.int .i64],[.str],false⟩,⟨154,13,206,.Rd,[.int .i64],[],true⟩,⟨84,14,206,.Rd,[],[.st .bH],false⟩,⟨155,15,206,.Rd,[],[.int .i64],true⟩,⟨85,16,206,.Rd,[],[.int .i64],true⟩,⟨156,33,212,.cd,[],[.int .i64],true⟩,⟨89,34,212,.cd,[],[.int .i64],false⟩,⟨157,35,212,.cd,[.int .i64],[.int .i64],false⟩,⟨90,36,212,.cd,[.int .i64],[.str],false⟩,⟨158,38,212,.cd,[.int .i64],[],true⟩,⟨91,39,212,.cd,[],[.st .bH],false⟩,⟨92,40,212,.cd,[],[.int .i64],true⟩]
@[reducible] noncomputable def b0:Program:=Go.Proofs.Tryz.prog
@[reducible] noncomputable def Vw(k j:Nat):Nat→List ab→ar→az:=Bs b0 (oc.all b0 ya) ya (60,108,5) (GL.take j) (AC.take k) 16
structure b8 (G:aY) (k j:Nat):Prop where
 z:x7 b0 G 60 108 5
 c:po b0 G vB (AC.take k)
 b:GM b0 G vB (GL.take j)
theorem Nr{α:Type}{l:List α}{k:Nat}{c:α}(h:l[k]? =some c){d:α}(hd:d∈l.take (k+1)):d∈l.take k∨d=c:=by
 rw[List.take_add_one,h,Option.toList_some,List.mem_append,List.mem_singleton]at hd
 exact hd
section
variable {G:aY}
theorem b8.i{k j:Nat}(h:b8 G k j):gI b0 G vB (Vw k j):=Fj (Z:=(60,108,5)) Nn h.z h.b h.c 16
theorem b8.cs{k j:Nat}(h:b8 G k j)(c:hR)(m:aW)(aj:AC[k]? =some c)(hm:eJ aW.d vB c.j=m)(ak:m.ps=c.ps)(af:m.rs=c.rs)(an:cp b0 G c.f m)(hc:c.eK=true→m.pre=none):b8 G (k+1) j:=
 ⟨h.z,fun d hd=>(Nr aj hd).elim (h.c d) (fun e=>e ▸ (by subst hm;exact⟨ak,af,an,hc⟩)),h.b⟩
theorem b8.cx{k j:Nat}(h:b8 G k j)(c:jK)(m:aW)(aj:GL[j]? =some c)(hm:eJ aW.d vB c.j=m)(ak:m.ps= .st c.c::c.ps)(af:m.rs= .st c.c::c.rs)(an:iL b0 G c.f c.t m)(hc:c.eK=true→m.pre=none):b8 G k (j+1):=
 ⟨h.z,h.c,fun d hd=>(Nr aj hd).elim (h.b d) (fun e=>e ▸ (by subst hm;exact⟨ak,af,an,hc⟩))⟩
end
end Go.aL
