/- Contracts: data. Conditions: none. -/
import Derived.Test.YtmkpmgfieagphaaGreatDoorQPm
import Derived.Test.YtmkpmgfieagphaaGreatDoorQTEp
import Derived.Test.YtmkpmgfieagphaaGreatDoorProg
open Go Go.aK Go.eO
namespace Go.aK
def tv:List (Nat × bF):=[(2,.i64),(3,.i64),(4,.bool),(5,.u8),(6,.u8),(9,.str),(10,.str),(11,.str),(23,.dr),(25,.cY),(27,.mr),(29,.b3),(31,.fx),(33,.nc),(34,.i64),(51,.Home),(62,.mv),(65,.Config),(70,.Case),(78,.dA),(83,.mw),(130,.eK),(132,.bA),(142,.cg),(155,.nd),(159,.aN),(164,.ja),(168,.Attr),(189,.bR),(198,.Command),(206,.Rd),(212,.nf),(236,.cS),(261,.eR),(340,.u8),(341,.u8),(349,.jA),(351,.jP),(353,.Change)]
noncomputable def Gm:aR:=⟨[.int .i64],[.str],some fun x=>n4 x,fun x=>fY x⟩
noncomputable def Gn:aR:=⟨[.str],[.str],some fun x=>rO x,fun x=>ig x⟩
noncomputable def Gp:aR:=⟨[.int .i64],[.bool],none,fun x=>rP x⟩
noncomputable def Gq:aR:=⟨[.st .cY],[.int .i64],none,fun x=>mm x⟩
noncomputable def Gr:aR:=⟨[.st .cY],[.str],some fun x=>E6 x,fun x=>pt x⟩
noncomputable def Gs:aR:=⟨[.st .b3],[.str],some fun x=>xX x,fun x=>qx x⟩
noncomputable def Gt:aR:=⟨[.st .Rd],[.st .Rd,.int .i64],none,fun x=>m6 x⟩
noncomputable def Gu:aR:=⟨[.str],[.int .u64,.int .i64,.int .i64],some fun x=>E2 x,fun x=>xR x⟩
noncomputable def Gv:aR:=⟨[.st .Rd],[.st .Rd,.int .i64],some fun x=>m7 x,fun x=>gV x⟩
noncomputable def Gw:aR:=⟨[.st .Rd,.int .i64],[.st .Rd,.int .i64],some fun x=>E3 (x.1) (x.2),fun x=>xT (x.1) (x.2)⟩
noncomputable def Gx:aR:=⟨[.st .Rd,.int .i64],[.st .Rd,.str],some fun x=>rR (x.1) (x.2),fun x=>ix (x.1) (x.2)⟩
noncomputable def Gy:aR:=⟨[.st .Rd,.int .i64],[.st .Rd],none,fun x=>AZ (x.1) (x.2)⟩
noncomputable def Gz:aR:=⟨[.st .Rd],[.st .Rd,.st .cY],some fun x=>A0 x,fun x=>u9 x⟩
noncomputable def GA:aR:=⟨[.st .Rd],[.st .Rd,.int .i64],none,fun x=>OO x⟩
noncomputable def GB:aR:=⟨[.st .Rd],[.st .Rd,.int .i64],none,fun x=>BN x⟩
noncomputable def GC:aR:=⟨[.st .b3],[.int .i64],none,fun x=>BO x⟩
noncomputable def GD:aR:=⟨[.st .b3],[.int .i64],none,fun x=>BP x⟩
noncomputable def GF:aR:=⟨[.str],[.st .b3,.int .i64],some fun x=>vg x,fun x=>tA x⟩
noncomputable def GG:aR:=⟨[.int .i32],[.bool],none,fun x=>F0 x⟩
noncomputable def GH:aR:=⟨[.str],[.bool],some fun x=>m8 x,fun x=>ih x⟩
noncomputable def GI:aR:=⟨[.st .cY],[.int .i64],none,fun x=>u7 x⟩
noncomputable def GJ:aR:=⟨[.int .i64],[.str],some fun x=>pn x,fun x=>jN x⟩
noncomputable def GK:aR:=⟨[.str],[.str],some fun x=>AX x,fun x=>qt x⟩
noncomputable def GL:aR:=⟨[.str],[.bool],some fun x=>pr x,fun x=>jO x⟩
noncomputable def GM:aR:=⟨[.str],[.str],some fun x=>Fv x,fun x=>OP x⟩
noncomputable def GN:aR:=⟨[.int .i64],[.int .i64],none,fun x=>Bb x⟩
noncomputable def GO:aR:=⟨[.int .u8],[.int .i64],some fun x=>yd x,fun x=>yq x⟩
noncomputable def GQ:aR:=⟨[.str],[.str,.int .i64],some fun x=>Bl x,fun x=>n9 x⟩
noncomputable def GR:aR:=⟨[.li .str,.str],[.int .i64],none,fun x=>vo (x.1) (x.2)⟩
noncomputable def GU:aR:=⟨[.li .str,.str],[.bool],none,fun x=>jv (x.1) (x.2)⟩
noncomputable def GV:aR:=⟨[.li .str,.str],[.int .i64],none,fun x=>qy (x.1) (x.2)⟩
noncomputable def GX:aR:=⟨[.li .str],[.int .i64],some fun x=>A5 x,fun x=>vn x⟩
noncomputable def GY:aR:=⟨[.st .Attr],[.int .i64],some fun x=>vl x,fun x=>kE x⟩
noncomputable def GZ:aR:=⟨[.st .aN],[.bool],none,fun x=>qA x⟩
noncomputable def G0:aR:=⟨[.st .Attr],[.bool],none,fun x=>tf x⟩
noncomputable def By:aR:=⟨[.li .str],[.li .str],some fun x=>vk x,fun x=>BQ x⟩
noncomputable def G1:aR:=⟨[.st .aN,.str],[.st .Attr,.bool],some fun x=>xZ (x.1) (x.2),fun x=>rU (x.1) (x.2)⟩
noncomputable def G2:aR:=⟨[.st .Attr,.st .cY],[.int .i64],some fun x=>xY (x.1) (x.2),fun x=>vq (x.1) (x.2)⟩
noncomputable def G3:aR:=⟨[.li .str,.li .str],[.bool],some fun x=>Fa (x.1) (x.2),fun x=>x4 (x.1) (x.2)⟩
noncomputable def G4:aR:=⟨[.st .Attr,.st .Attr],[.bool],some fun x=>Fb (x.1) (x.2),fun x=>Bc (x.1) (x.2)⟩
noncomputable def G5:aR:=⟨[.st .cS,.st .Attr,.st .Attr],[.bool],some fun x=>A7 (x.1) (x.2.1) (x.2.2),fun x=>Be (x.1) (x.2.1) (x.2.2)⟩
noncomputable def G6:aR:=⟨[.st .aN,.st .Attr,.st .cS],[.int .i64],some fun x=>A8 (x.1) (x.2.1) (x.2.2),fun x=>px (x.1) (x.2.1) (x.2.2)⟩
noncomputable def G7:aR:=⟨[.st .aN,.int .i64],[.int .i64],some fun x=>A9 (x.1) (x.2),fun x=>qz (x.1) (x.2)⟩
noncomputable def G8:aR:=⟨[.st .aN],[.int .i64],some fun x=>Fe x,fun x=>py x⟩
noncomputable def G9:aR:=⟨[.li .aN],[.int .i64],some fun x=>Ff x,fun x=>pz x⟩
noncomputable def Ha:aR:=⟨[.st .Home],[.mp (.str) (.st .aN)],none,fun x=>kh x⟩
noncomputable def Hb:aR:=⟨[.st .bR],[.bool],none,fun x=>vt x⟩
noncomputable def Hc:aR:=⟨[.st .bR,.mp (.str) (.st .aN)],[.int .i64],none,fun x=>rV (x.1) (x.2)⟩
noncomputable def Hd:aR:=⟨[.st .Home],[.int .i64],some fun x=>x1 x,fun x=>hP x⟩
noncomputable def He:aR:=⟨[.st .b3],[.st .b3],none,fun x=>F1 x⟩
noncomputable def Hf:aR:=⟨[.st .Home,.int .i64],[.st .bR,.bool],some fun x=>x2 (x.1) (x.2),fun x=>lP (x.1) (x.2)⟩
noncomputable def Hg:aR:=⟨[.st .Home,.st .dr],[.st .Attr,.bool],some fun x=>Bi (x.1) (x.2),fun x=>yr (x.1) (x.2)⟩
noncomputable def Hh:aR:=⟨[.st .Home,.st .b3],[.int .i64],some fun x=>Bj (x.1) (x.2),fun x=>OQ (x.1) (x.2)⟩
noncomputable def Hi:aR:=⟨[.st .Home,.int .i64,.str],[.st .aN,.bool],some fun x=>Fp (x.1) (x.2.1) (x.2.2),fun x=>rY (x.1) (x.2.1) (x.2.2)⟩
noncomputable def Bz:aR:=⟨[.li .cS],[.li .cS],some fun x=>A4 x,fun x=>OR x⟩
noncomputable def Hj:aR:=⟨[.st .aN,.str],[.st .Command,.bool],some fun x=>Fq (x.1) (x.2),fun x=>F2 (x.1) (x.2)⟩
noncomputable def Hk:aR:=⟨[.st .Home,.st .b3],[.int .i64],some fun x=>Fs (x.1) (x.2),fun x=>OS (x.1) (x.2)⟩
noncomputable def Hl:aR:=⟨[.st .Home,.st .b3],[.int .i64],some fun x=>Bk (x.1) (x.2),fun x=>F3 (x.1) (x.2)⟩
noncomputable def Hm:aR:=⟨[.st .Home,.st .b3],[.int .i64],some fun x=>Ft (x.1) (x.2),fun x=>pd (x.1) (x.2)⟩
noncomputable def Hn:aR:=⟨[.li .str,.str],[.bool],none,fun x=>te (x.1) (x.2)⟩
noncomputable def Ho:aR:=⟨[.st .Attr],[.int .i64],some fun x=>yt x,fun x=>pw x⟩
noncomputable def Hp:aR:=⟨[.st .aN,.str],[.int .i64],none,fun x=>rT (x.1) (x.2)⟩
noncomputable def Hq:aR:=⟨[.st .aN],[.bool],none,fun x=>x8 x⟩
noncomputable def Hr:aR:=⟨[.li .str,.li .str],[.bool],some fun x=>F4 (x.1) (x.2),fun x=>x3 (x.1) (x.2)⟩
noncomputable def Hs:aR:=⟨[.st .Attr,.st .Attr],[.bool],some fun x=>OT (x.1) (x.2),fun x=>x5 (x.1) (x.2)⟩
noncomputable def Ht:aR:=⟨[.st .aN,.str],[.st .Attr,.bool],some fun x=>F5 (x.1) (x.2),fun x=>th (x.1) (x.2)⟩
noncomputable def Hu:aR:=⟨[.st .Attr,.st .cY],[.int .i64],some fun x=>BR (x.1) (x.2),fun x=>vp (x.1) (x.2)⟩
noncomputable def Hv:aR:=⟨[.st .cS,.st .Attr,.st .Attr],[.bool],some fun x=>OU (x.1) (x.2.1) (x.2.2),fun x=>Bd (x.1) (x.2.1) (x.2.2)⟩
noncomputable def Hw:aR:=⟨[.st .aN,.st .Attr,.st .cS],[.int .i64],some fun x=>OV (x.1) (x.2.1) (x.2.2),fun x=>x6 (x.1) (x.2.1) (x.2.2)⟩
noncomputable def Hy:aR:=⟨[.st .aN,.int .i64],[.int .i64],some fun x=>OW (x.1) (x.2),fun x=>x7 (x.1) (x.2)⟩
noncomputable def Hz:aR:=⟨[.st .aN],[.int .i64],some fun x=>OX x,fun x=>x9 x⟩
noncomputable def HA:aR:=⟨[.li .aN],[.int .i64],some fun x=>OY x,fun x=>ya x⟩
noncomputable def HB:aR:=⟨[.li .str,.str],[.int .i64],none,fun x=>td (x.1) (x.2)⟩
noncomputable def HC:aR:=⟨[.st .Home,.str],[.int .i64],some fun x=>F6 (x.1) (x.2),fun x=>tj (x.1) (x.2)⟩
noncomputable def HD:aR:=⟨[.st .Home,.st .bR],[.int .i64],some fun x=>OZ (x.1) (x.2),fun x=>tk (x.1) (x.2)⟩
noncomputable def HE:aR:=⟨[.st .Home,.int .i64],[.int .i64],some fun x=>O0 (x.1) (x.2),fun x=>pB (x.1) (x.2)⟩
noncomputable def HF:aR:=⟨[.st .Home],[.int .i64],some fun x=>F7 x,fun x=>rW x⟩
noncomputable def HG:aR:=⟨[.st .b3],[.bool],none,fun x=>F8 x⟩
noncomputable def HH:aR:=⟨[.st .Home,.int .i64],[.int .i64],some fun x=>O1 (x.1) (x.2),fun x=>F9 (x.1) (x.2)⟩
noncomputable def HI:aR:=⟨[.st .Home,.int .i64,.str],[.st .aN,.bool],some fun x=>Ga (x.1) (x.2.1) (x.2.2),fun x=>yu (x.1) (x.2.1) (x.2.2)⟩
noncomputable def HJ:aR:=⟨[.st .Home,.st .dr],[.st .Attr,.bool],some fun x=>O2 (x.1) (x.2),fun x=>Gb (x.1) (x.2)⟩
noncomputable def HK:aR:=⟨[.st .Home,.st .b3],[.int .i64],some fun x=>O4 (x.1) (x.2),fun x=>O3 (x.1) (x.2)⟩
noncomputable def HL:aR:=⟨[.st .aN,.str],[.st .Command,.bool],none,fun x=>Gc (x.1) (x.2)⟩
noncomputable def HM:aR:=⟨[.st .Home,.st .b3],[.int .i64],some fun x=>O6 (x.1) (x.2),fun x=>O5 (x.1) (x.2)⟩
noncomputable def HN:aR:=⟨[.st .Home,.st .b3],[.int .i64],some fun x=>O7 (x.1) (x.2),fun x=>BS (x.1) (x.2)⟩
noncomputable def HO:aR:=⟨[.str],[.int .u64],some fun x=>Fw x,fun x=>O8 x⟩
noncomputable def HP:aR:=⟨[.int .u64,.str],[.int .i64],some fun x=>Bm (x.1) (x.2),fun x=>Gd (x.1) (x.2)⟩
noncomputable def HQ:aR:=⟨[.int .u64,.str],[.str,.int .i64],some fun x=>Fx (x.1) (x.2),fun x=>pC (x.1) (x.2)⟩
noncomputable def HR:aR:=⟨[.st .eK],[.int .i64],some fun x=>Pb x,fun x=>O9 x⟩
noncomputable def HS:aR:=⟨[.int .u64,.str],[.st .eK,.int .i64],some fun x=>Fy (x.1) (x.2),fun x=>Ge (x.1) (x.2)⟩
noncomputable def HT:aR:=⟨[.li .i64,.int .i64],[.int .i64],none,fun x=>Pc (x.1) (x.2)⟩
noncomputable def HU:aR:=⟨[.li .i64,.int .i64],[.bool],none,fun x=>Pd (x.1) (x.2)⟩
noncomputable def HV:aR:=⟨[.int .u64,.str,.int .i64,.li .i64],[.st .eK,.int .i64],some fun x=>Fz (x.1) (x.2.1) (x.2.2.1) (x.2.2.2),fun x=>eI (x.1) (x.2.1) (x.2.2.1) (x.2.2.2)⟩
noncomputable def HW:aR:=⟨[.st .eR],[.bool],none,fun x=>yv x⟩
noncomputable def HX:aR:=⟨[.li .eR],[.int .i64],none,fun x=>Gf x⟩
noncomputable def HY:aR:=⟨[.st .Home,.li .cg,.int .i64],[.int .i64],some fun x=>Bq (x.1) (x.2.1) (x.2.2),fun x=>Gg (x.1) (x.2.1) (x.2.2)⟩
noncomputable def HZ:aR:=⟨[.st .cg],[.bool],none,fun x=>Pe x⟩
noncomputable def H0:aR:=⟨[.st .Home,.li .cg],[.int .i64],some fun x=>FC (x.1) (x.2),fun x=>Gh (x.1) (x.2)⟩
noncomputable def BA:aR:=⟨[.li .eR],[.li .eR],some fun x=>FE x,fun x=>Pf x⟩
noncomputable def H2:aR:=⟨[.li .cg,.str],[.st .cg,.bool],some fun x=>FD (x.1) (x.2),fun x=>Gi (x.1) (x.2)⟩
noncomputable def H3:aR:=⟨[.st .Home,.int .i64],[.str],some fun x=>qB (x.1) (x.2),fun x=>og (x.1) (x.2)⟩
noncomputable def H4:aR:=⟨[.st .Home,.st .dr],[.bool],some fun x=>Br (x.1) (x.2),fun x=>BT (x.1) (x.2)⟩
noncomputable def H5:aR:=⟨[.st .Home,.int .i64],[.li .dr],some fun x=>FF (x.1) (x.2),fun x=>Gj (x.1) (x.2)⟩
noncomputable def H6:aR:=⟨[.st .Home,.st .b3],[.bool],some fun x=>vx (x.1) (x.2),fun x=>BU (x.1) (x.2)⟩
noncomputable def H7:aR:=⟨[.st .Home,.st .cg,.int .i64,.st .b3],[.int .i64],some fun x=>Bs (x.1) (x.2.1) (x.2.2.1) (x.2.2.2),fun x=>Pg (x.1) (x.2.1) (x.2.2.1) (x.2.2.2)⟩
noncomputable def H8:aR:=⟨[.st .Home,.li .cg,.str,.int .i64,.st .b3],[.int .i64],some fun x=>FG (x.1) (x.2.1) (x.2.2.1) (x.2.2.2.1) (x.2.2.2.2),fun x=>pe (x.1) (x.2.1) (x.2.2.1) (x.2.2.2.1) (x.2.2.2.2)⟩
noncomputable def H9:aR:=⟨[.li .bA,.str],[.int .i64,.bool],none,fun x=>hq (x.1) (x.2)⟩
noncomputable def Ia:aR:=⟨[],[.st .dA],none,fun x=>Gk⟩
noncomputable def Ib:aR:=⟨[.st .dA],[.int .i64],some fun x=>FJ x,fun x=>tl x⟩
noncomputable def Ic:aR:=⟨[.st .dA,.int .i64],[.st .dA,.bool],some fun x=>FK (x.1) (x.2),fun x=>k6 (x.1) (x.2)⟩
noncomputable def Ie:aR:=⟨[.st .Config,.li .cg,.li .bA,.li .i64,.st .fx,.int .i64,.int .i64],[.str,.li .bA,.int .i64],some fun x=>pD (x.1) (x.2.1) (x.2.2.1) (x.2.2.2.1) (x.2.2.2.2.1) (x.2.2.2.2.2.1) (x.2.2.2.2.2.2),fun x=>fj (x.1) (x.2.1) (x.2.2.1) (x.2.2.2.1) (x.2.2.2.2.1) (x.2.2.2.2.2.1) (x.2.2.2.2.2.2)⟩
noncomputable def iZ:aR:=⟨[],[.li .aN],some fun x=>Pj,fun x=>Ph⟩
noncomputable def Ig:aR:=⟨[],[.st .Config,.li .cg],some fun x=>Pk,fun x=>Bv⟩
noncomputable def Ih:aR:=⟨[.st .eK],[.int .i64],some fun x=>Pl x,fun x=>Gl x⟩
noncomputable def Ii:aR:=⟨[.int .i64],[.str],none,fun x=>ye x⟩
noncomputable def Ij:aR:=⟨[.str],[.int .u64],some fun x=>Pn x,fun x=>Pm x⟩
noncomputable def Ik:aR:=⟨[.int .u64],[.str],some fun x=>Bn x,fun x=>vw x⟩
noncomputable def Il:aR:=⟨[.int .u64,.str],[.int .i64],some fun x=>Bo (x.1) (x.2),fun x=>Bp (x.1) (x.2)⟩
noncomputable def Im:aR:=⟨[.int .u64,.str],[.str],some fun x=>FB (x.1) (x.2),fun x=>Bt (x.1) (x.2)⟩
noncomputable def Io:aR:=⟨[.st .eK],[.str],some fun x=>Bu x,fun x=>yh x⟩
noncomputable def Ip:aR:=⟨[.int .u64,.st .eK],[.str,.int .i64],some fun x=>FL (x.1) (x.2),fun x=>yg (x.1) (x.2)⟩
noncomputable def Iq:aR:=⟨[],[.bool],some fun x=>pE,fun x=>qC⟩
noncomputable def Ir:aR:=⟨[.st .Case],[.bool],some fun x=>Bw x,fun x=>nV x⟩
noncomputable def Is:aR:=⟨[],[.st .dA],none,fun x=>Po⟩
noncomputable def It:aR:=⟨[.li .bA,.str],[.st .dA],none,fun x=>tm (x.1) (x.2)⟩
noncomputable def Iu:aR:=⟨[.li .bA,.li .bA],[.bool],some fun x=>AK (x.1) (x.2),fun x=>s0 (x.1) (x.2)⟩
noncomputable def Iv:aR:=⟨[.st .Home,.st .b3,.str],[.bool],some fun x=>Zv (x.1) (x.2.1) (x.2.2),fun x=>Zu (x.1) (x.2.1) (x.2.2)⟩
noncomputable def pg:aR:=⟨[.st .Case,.st .fx],[.bool],some fun x=>Nx (x.1) (x.2),fun x=>AQ (x.1) (x.2)⟩
noncomputable def pj:aR:=⟨[.st .Case,.str],[.bool],some fun x=>NC (x.1) (x.2),fun x=>AR (x.1) (x.2)⟩
noncomputable def tE:List aR:=[Gm,Gn,Gp,Gq,Gr,Gs,Gt,Gu,Gv,Gw,Gx,Gy,Gz,GA,GB,GC,GD,GF,GG,GH,GI,GJ,GK,GL,GM,GN,GO,GQ,GR,GU,GV,GX,GY,GZ,G0,By,G1,G2,G3,G4,G5,G6,G7,G8,G9,Ha,Hb,Hc,Hd,He,Hf,Hg,Hh,Hi,Bz,Hj,Hk,Hl,Hm,Hn,Ho,Hp,Hq,Hr,Hs,Ht,Hu,Hv,Hw,Hy,Hz,HA,HB,HC,HD,HE,HF,HG,HH,HI,HJ,HK,HL,HM,HN,HO,HP,HQ,HR,HS,HT,HU,HV,HW,HX,HY,HZ,H0,BA,H2,H3,H4,H5,H6,H7,H8,H9,Ia,Ib,Ic,Ie,iZ,Ig,Ih,Ii,Ij,Ik,Il,Im,Io,Ip,Iq,Ir,Is,It,Iu,Iv,pg,pj]
def AC:List h1:=[⟨93,0,[.int .i64],[.str],false⟩,⟨94,1,[.str],[.str],false⟩,⟨193,2,[.int .i64],[.bool],true⟩,⟨119,3,[.st .cY],[.int .i64],true⟩,⟨95,4,[.st .cY],[.str],false⟩,⟨28,5,[.st .b3],[.str],false⟩,⟨152,7,[.str],[.int .u64,.int .i64,.int .i64],false⟩,⟨67,15,[.st .b3],[.int .i64],true⟩,⟨69,16,[.st .b3],[.int .i64],true⟩,⟨26,17,[.str],[.st .b3,.int .i64],false⟩,⟨192,18,[.int .i32],[.bool],true⟩,⟨118,19,[.str],[.bool],false⟩,⟨50,20,[.st .cY],[.int .i64],true⟩,⟨96,21,[.int .i64],[.str],false⟩,⟨97,22,[.str],[.str],false⟩,⟨78,23,[.str],[.bool],false⟩,⟨54,24,[.str],[.str],false⟩,⟨200,25,[.int .i64],[.int .i64],true⟩,⟨199,26,[.int .u8],[.int .i64],false⟩,⟨128,27,[.str],[.str,.int .i64],false⟩,⟨259,28,[.li .str,.str],[.int .i64],true⟩,⟨237,29,[.li .str,.str],[.bool],true⟩,⟨206,30,[.li .str,.str],[.int .i64],true⟩,⟨280,31,[.li .str],[.int .i64],false⟩,⟨242,32,[.st .Attr],[.int .i64],false⟩,⟨257,33,[.st .aN],[.bool],true⟩,⟨292,34,[.st .Attr],[.bool],true⟩,⟨224,35,[.li .str],[.li .str],false⟩,⟨261,36,[.st .aN,.str],[.st .Attr,.bool],false⟩,⟨208,37,[.st .Attr,.st .cY],[.int .i64],false⟩,⟨316,38,[.li .str,.li .str],[.bool],false⟩,⟨315,39,[.st .Attr,.st .Attr],[.bool],false⟩,⟨311,40,[.st .cS,.st .Attr,.st .Attr],[.bool],false⟩,⟨293,41,[.st .aN,.st .Attr,.st .cS],[.int .i64],false⟩,⟨258,42,[.st .aN,.int .i64],[.int .i64],false⟩,⟨205,43,[.st .aN],[.int .i64],false⟩,⟨136,44,[.li .aN],[.int .i64],false⟩,⟨137,45,[.st .Home],[.mp (.str) (.st .aN)],true⟩,⟨138,46,[.st .bR],[.bool],true⟩,⟨139,47,[.st .bR,.mp (.str) (.st .aN)],[.int .i64],true⟩,⟨65,48,[.st .Home],[.int .i64],false⟩,⟨71,49,[.st .b3],[.st .b3],true⟩,⟨260,50,[.st .Home,.int .i64],[.st .bR,.bool],false⟩,⟨207,51,[.st .Home,.st .dr],[.st .Attr,.bool],false⟩,⟨140,52,[.st .Home,.st .b3],[.int .i64],false⟩,⟨180,53,[.st .Home,.int .i64,.str],[.st .aN,.bool],false⟩,⟨262,54,[.li .cS],[.li .cS],false⟩,⟨209,55,[.st .aN,.str],[.st .Command,.bool],false⟩,⟨141,56,[.st .Home,.st .b3],[.int .i64],false⟩,⟨73,57,[.st .Home,.st .b3],[.int .i64],false⟩,⟨23,58,[.st .Home,.st .b3],[.int .i64],false⟩,⟨247,59,[.li .str,.str],[.bool],true⟩,⟨187,60,[.st .Attr],[.int .i64],false⟩,⟨190,61,[.st .aN,.str],[.int .i64],true⟩,⟨248,62,[.st .aN],[.bool],true⟩,⟨302,63,[.li .str,.li .str],[.bool],false⟩,⟨283,64,[.st .Attr,.st .Attr],[.bool],false⟩,⟨211,65,[.st .aN,.str],[.st .Attr,.bool],false⟩,⟨145,66,[.st .Attr,.st .cY],[.int .i64],false⟩,⟨303,67,[.st .cS,.st .Attr,.st .Attr],[.bool],false⟩,⟨284,68,[.st .aN,.st .Attr,.st .cS],[.int .i64],false⟩,⟨249,69,[.st .aN,.int .i64],[.int .i64],false⟩,⟨189,70,[.st .aN],[.int .i64],false⟩,⟨142,71,[.li .aN],[.int .i64],false⟩,⟨184,72,[.li .str,.str],[.int .i64],true⟩,⟨185,73,[.st .Home,.str],[.int .i64],false⟩,⟨210,74,[.st .Home,.st .bR],[.int .i64],false⟩,⟨143,75,[.st .Home,.int .i64],[.int .i64],false⟩,⟨74,76,[.st .Home],[.int .i64],false⟩,⟨75,77,[.st .b3],[.bool],true⟩,⟨175,78,[.st .Home,.int .i64],[.int .i64],false⟩,⟨114,79,[.st .Home,.int .i64,.str],[.st .aN,.bool],false⟩,⟨144,80,[.st .Home,.st .dr],[.st .Attr,.bool],false⟩,⟨76,81,[.st .Home,.st .b3],[.int .i64],false⟩,⟨146,82,[.st .aN,.str],[.st .Command,.bool],true⟩,⟨77,83,[.st .Home,.st .b3],[.int .i64],false⟩,⟨24,84,[.st .Home,.st .b3],[.int .i64],false⟩,⟨295,85,[.str],[.int .u64],false⟩,⟨266,86,[.int .u64,.str],[.int .i64],false⟩,⟨217,87,[.int .u64,.str],[.str,.int .i64],false⟩,⟨218,88,[.st .eK],[.int .i64],false⟩,⟨159,89,[.int .u64,.str],[.st .eK,.int .i64],false⟩,⟨219,90,[.li .i64,.int .i64],[.int .i64],true⟩,⟨160,91,[.li .i64,.int .i64],[.bool],true⟩,⟨100,92,[.int .u64,.str,.int .i64,.li .i64],[.st .eK,.int .i64],false⟩,⟨296,93,[.st .eR],[.bool],true⟩,⟨268,94,[.li .eR],[.int .i64],true⟩,⟨220,95,[.st .Home,.li .cg,.int .i64],[.int .i64],false⟩,⟨222,96,[.st .cg],[.bool],true⟩,⟨161,97,[.st .Home,.li .cg],[.int .i64],false⟩,⟨223,98,[.li .eR],[.li .eR],false⟩,⟨162,99,[.li .cg,.str],[.st .cg,.bool],false⟩,⟨272,100,[.st .Home,.int .i64],[.str],false⟩,⟨297,101,[.st .Home,.st .dr],[.bool],false⟩,⟨299,102,[.st .Home,.int .i64],[.li .dr],false⟩,⟨273,103,[.st .Home,.st .b3],[.bool],false⟩,⟨163,104,[.st .Home,.st .cg,.int .i64,.st .b3],[.int .i64],false⟩,⟨103,105,[.st .Home,.li .cg,.str,.int .i64,.st .b3],[.int .i64],false⟩,⟨104,106,[.li .bA,.str],[.int .i64,.bool],true⟩,⟨105,107,[],[.st .dA],true⟩,⟨167,108,[.st .dA],[.int .i64],false⟩,⟨106,109,[.st .dA,.int .i64],[.st .dA,.bool],false⟩,⟨31,110,[.st .Config,.li .cg,.li .bA,.li .i64,.st .fx,.int .i64,.int .i64],[.str,.li .bA,.int .i64],false⟩,⟨147,111,[],[.li .aN],false⟩,⟨79,112,[],[.st .Config,.li .cg],false⟩,⟨148,113,[.st .eK],[.int .i64],false⟩,⟨215,114,[.int .i64],[.str],true⟩,⟨263,115,[.str],[.int .u64],false⟩,⟨264,116,[.int .u64],[.str],false⟩,⟨216,117,[.int .u64,.str],[.int .i64],false⟩,⟨149,118,[.int .u64,.str],[.str],false⟩,⟨150,119,[.st .eK],[.str],false⟩,⟨80,120,[.int .u64,.st .eK],[.str,.int .i64],false⟩,⟨25,121,[],[.bool],false⟩,⟨30,122,[.st .Case],[.bool],false⟩,⟨112,123,[],[.st .dA],true⟩,⟨34,124,[.li .bA,.str],[.st .dA],true⟩,⟨33,125,[.li .bA,.li .bA],[.bool],false⟩,⟨9,126,[.st .Home,.st .b3,.str],[.bool],false⟩,⟨10,127,[.st .Case,.st .fx],[.bool],false⟩,⟨11,128,[.st .Case,.str],[.bool],false⟩]
def Iw:List jQ:=[⟨151,6,206,.Rd,[],[.int .i64],true⟩,⟨82,8,206,.Rd,[],[.int .i64],false⟩,⟨153,9,206,.Rd,[.int .i64],[.int .i64],false⟩,⟨83,10,206,.Rd,[.int .i64],[.str],false⟩,⟨154,11,206,.Rd,[.int .i64],[],true⟩,⟨84,12,206,.Rd,[],[.st .cY],false⟩,⟨155,13,206,.Rd,[],[.int .i64],true⟩,⟨85,14,206,.Rd,[],[.int .i64],true⟩]
@[reducible] noncomputable def bj:Program:=Go.Proofs.Tryz.prog
def BM:List la:=[⟨99,132,.bA,32⟩,⟨245,25,.cY,32⟩]
def yp:List la:=[⟨107,132,.bA,32⟩]
@[reducible] noncomputable def Zw(k j:Nat):Nat→List ab→aq→aB:=BK bj (jx.all bj tv) tv (60,108,5) BM yp (Iw.take j) (AC.take k) 16
structure bG (G:a8) (k j:Nat):Prop where
 z:tz bj G 60 108 5
 r: ∀r∈BM,na bj G r
 ii: ∀r∈yp,tn bj G r
 c:qD bj G tE (AC.take k)
 b:Ix bj G tE (Iw.take j)
theorem Pp{α:Type}{l:List α}{k:Nat}{c:α}(h:l[k]? =some c){d:α}(hd:d∈l.take (k+1)):d∈l.take k∨d=c:=by
 rw[List.take_add_one,h,Option.toList_some,List.mem_append,List.mem_singleton]at hd
 exact hd
section
variable {G:a8}
theorem bG.i{k j:Nat}(h:bG G k j):fP bj G tE (Zw k j):=FZ (Z:=(60,108,5)) FT h.r h.ii h.z h.b h.c 16
theorem bG.cs{k j:Nat}(h:bG G k j)(c:h1)(m:aR)(aj:AC[k]? =some c)(hm:eT aR.d tE c.j=m)(ak:m.ps=c.ps)(ag:m.rs=c.rs)(an:bE bj G c.f m)(hc:c.e2=true→m.pre=none):bG G (k+1) j:=
 ⟨h.z,h.r,h.ii,fun d hd=>(Pp aj hd).elim (h.c d) (fun e=>e ▸ (by subst hm;exact⟨ak,ag,an,hc⟩)),h.b⟩
theorem bG.cM{k j:Nat}(h:bG G k j)(c:jQ)(m:aR)(aj:Iw[j]? =some c)(hm:eT aR.d tE c.j=m)(ak:m.ps= .st c.c::c.ps)(ag:m.rs= .st c.c::c.rs)(an:my bj G c.f c.t m)(hc:c.e2=true→m.pre=none):bG G k (j+1):=
 ⟨h.z,h.r,h.ii,h.c,fun d hd=>(Pp aj hd).elim (h.b d) (fun e=>e ▸ (by subst hm;exact⟨ak,ag,an,hc⟩))⟩
end
end Go.aK
