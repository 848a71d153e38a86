/- Contracts: data. Conditions: none. -/
import Derived.Test.YtmkpmgfieagphaaGreatDoorKPm
import Derived.Test.YtmkpmgfieagphaaGreatDoorKTEp
import Derived.Test.YtmkpmgfieagphaaGreatDoorProg
open Go Go.aK Go.eK
namespace Go.aK
def uH:List (Nat × bK):=[(2,.i64),(3,.i64),(4,.bool),(5,.u8),(6,.u8),(9,.str),(10,.str),(11,.str),(23,.dh),(25,.cd),(27,.mW),(29,.bs),(31,.ir),(33,.nN),(34,.i64),(51,.Home),(62,.mX),(65,.Config),(70,.Case),(78,.fl),(83,.mY),(130,.eL),(132,.cH),(142,.cw),(155,.nO),(159,.aJ),(164,.ji),(168,.Attr),(189,.bu),(198,.Command),(206,.Rd),(212,.cn),(236,.cO),(261,.eR),(340,.u8),(341,.u8),(349,.jJ),(351,.jZ),(353,.Change)]
noncomputable def HM:aQ:=⟨[.int .i64],[.str],some fun x=>oy x,fun x=>fV x⟩
noncomputable def HN:aQ:=⟨[.str],[.str],some fun x=>sy x,fun x=>h7 x⟩
noncomputable def HO:aQ:=⟨[.int .i64],[.bool],none,fun x=>sz x⟩
noncomputable def HP:aQ:=⟨[.st .cd],[.int .i64],none,fun x=>ku x⟩
noncomputable def HQ:aQ:=⟨[.st .cd],[.str],some fun x=>Gq x,fun x=>mR x⟩
noncomputable def HR:aQ:=⟨[.st .bs],[.str],some fun x=>B4 x,fun x=>ox x⟩
noncomputable def HS:aQ:=⟨[.st .Rd],[.st .Rd,.int .i64],none,fun x=>nA x⟩
noncomputable def HT:aQ:=⟨[.str],[.int .u64,.int .i64,.int .i64],some fun x=>Gj x,fun x=>yM x⟩
noncomputable def HU:aQ:=⟨[.st .Rd],[.st .Rd,.int .i64],some fun x=>nC x,fun x=>gq x⟩
noncomputable def HV:aQ:=⟨[.st .Rd,.int .i64],[.st .Rd,.int .i64],some fun x=>Gk (x.1) (x.2),fun x=>yP (x.1) (x.2)⟩
noncomputable def HW:aQ:=⟨[.st .Rd,.int .i64],[.st .Rd,.str],some fun x=>sB (x.1) (x.2),fun x=>hH (x.1) (x.2)⟩
noncomputable def HX:aQ:=⟨[.st .Rd,.int .i64],[.st .Rd],none,fun x=>BV (x.1) (x.2)⟩
noncomputable def HY:aQ:=⟨[.st .Rd],[.st .Rd,.st .cd],some fun x=>BY x,fun x=>uf x⟩
noncomputable def HZ:aQ:=⟨[.st .Rd],[.st .Rd,.int .i64],none,fun x=>Gi x⟩
noncomputable def H0:aQ:=⟨[.st .Rd],[.st .Rd,.int .i64],none,fun x=>v7 x⟩
noncomputable def H2:aQ:=⟨[.st .bs],[.int .i64],none,fun x=>v8 x⟩
noncomputable def H3:aQ:=⟨[.st .bs],[.int .i64],none,fun x=>wa x⟩
noncomputable def H4:aQ:=⟨[.str],[.st .bs,.int .i64],some fun x=>yR x,fun x=>ui x⟩
noncomputable def H5:aQ:=⟨[.int .i32],[.bool],none,fun x=>HC x⟩
noncomputable def H6:aQ:=⟨[.str],[.bool],some fun x=>nH x,fun x=>iq x⟩
noncomputable def H7:aQ:=⟨[.st .cn],[.st .cn,.int .i64],none,fun x=>mP x⟩
noncomputable def H8:aQ:=⟨[.st .cn],[.st .cn,.int .i64],some fun x=>q7 x,fun x=>iH x⟩
noncomputable def H9:aQ:=⟨[.st .cn,.int .i64],[.st .cn,.int .i64],some fun x=>Gn (x.1) (x.2),fun x=>yQ (x.1) (x.2)⟩
noncomputable def Ia:aQ:=⟨[.st .cn,.int .i64],[.st .cn,.str],some fun x=>uk (x.1) (x.2),fun x=>iY (x.1) (x.2)⟩
noncomputable def Ib:aQ:=⟨[.st .cd],[.int .i64],none,fun x=>pR x⟩
noncomputable def Ic:aQ:=⟨[.st .cn,.int .i64],[.st .cn],none,fun x=>BW (x.1) (x.2)⟩
noncomputable def Ie:aQ:=⟨[.st .cn],[.st .cn,.st .cd],some fun x=>B1 x,fun x=>uh x⟩
noncomputable def Ig:aQ:=⟨[.st .cn],[.st .cn,.int .i64],none,fun x=>BX x⟩
noncomputable def Ih:aQ:=⟨[.str],[.st .bs,.int .i64],some fun x=>B2 x,fun x=>yT x⟩
noncomputable def Ii:aQ:=⟨[.int .i64],[.str],some fun x=>iF x,fun x=>fA x⟩
noncomputable def Ij:aQ:=⟨[.str],[.str],some fun x=>pQ x,fun x=>iG x⟩
noncomputable def Ik:aQ:=⟨[.st .cd],[.str],some fun x=>Gr x,fun x=>uo x⟩
noncomputable def Il:aQ:=⟨[.st .bs],[.str],some fun x=>Gt x,fun x=>yV x⟩
noncomputable def Im:aQ:=⟨[.str],[.bool],some fun x=>p0 x,fun x=>jW x⟩
noncomputable def Io:aQ:=⟨[.str],[.str],some fun x=>G8 x,fun x=>Qw x⟩
noncomputable def Ip:aQ:=⟨[.int .i64],[.int .i64],none,fun x=>Cd x⟩
noncomputable def Iq:aQ:=⟨[.int .u8],[.int .i64],some fun x=>zh x,fun x=>zx x⟩
noncomputable def Ir:aQ:=⟨[.str],[.str,.int .i64],some fun x=>CE x,fun x=>oO x⟩
noncomputable def Is:aQ:=⟨[.li .str,.str],[.int .i64],none,fun x=>mS (x.1) (x.2)⟩
noncomputable def It:aQ:=⟨[.li .str,.str],[.bool],none,fun x=>iJ (x.1) (x.2)⟩
noncomputable def Iu:aQ:=⟨[.li .str,.str],[.int .i64],none,fun x=>p2 (x.1) (x.2)⟩
noncomputable def Iv:aQ:=⟨[.li .str],[.int .i64],some fun x=>B6 x,fun x=>wj x⟩
noncomputable def Iw:aQ:=⟨[.st .Attr],[.int .i64],some fun x=>wi x,fun x=>kY x⟩
noncomputable def Ix:aQ:=⟨[.st .aJ],[.bool],none,fun x=>oK x⟩
noncomputable def Iy:aQ:=⟨[.st .Attr],[.bool],none,fun x=>uu x⟩
noncomputable def CS:aQ:=⟨[.li .str],[.li .str],some fun x=>wh x,fun x=>C6 x⟩
noncomputable def Iz:aQ:=⟨[.st .aJ,.str],[.st .Attr,.bool],some fun x=>yX (x.1) (x.2),fun x=>sF (x.1) (x.2)⟩
noncomputable def IA:aQ:=⟨[.st .Attr,.st .cd],[.int .i64],some fun x=>yW (x.1) (x.2),fun x=>wo (x.1) (x.2)⟩
noncomputable def IB:aQ:=⟨[.li .str,.li .str],[.bool],some fun x=>Gx (x.1) (x.2),fun x=>y3 (x.1) (x.2)⟩
noncomputable def IC:aQ:=⟨[.st .Attr,.st .Attr],[.bool],some fun x=>Gy (x.1) (x.2),fun x=>Ce (x.1) (x.2)⟩
noncomputable def ID:aQ:=⟨[.st .cO,.st .Attr,.st .Attr],[.bool],some fun x=>B8 (x.1) (x.2.1) (x.2.2),fun x=>Cg (x.1) (x.2.1) (x.2.2)⟩
noncomputable def IE:aQ:=⟨[.st .aJ,.st .Attr,.st .cO],[.int .i64],some fun x=>B9 (x.1) (x.2.1) (x.2.2),fun x=>p4 (x.1) (x.2.1) (x.2.2)⟩
noncomputable def IF:aQ:=⟨[.st .aJ,.int .i64],[.int .i64],some fun x=>Ca (x.1) (x.2),fun x=>rf (x.1) (x.2)⟩
noncomputable def IG:aQ:=⟨[.st .aJ],[.int .i64],some fun x=>GA x,fun x=>p5 x⟩
noncomputable def IH:aQ:=⟨[.li .aJ],[.int .i64],some fun x=>GB x,fun x=>nJ x⟩
noncomputable def II:aQ:=⟨[.st .Home],[.mp (.str) (.st .aJ)],none,fun x=>kB x⟩
noncomputable def IJ:aQ:=⟨[.st .bu],[.bool],none,fun x=>wv x⟩
noncomputable def IK:aQ:=⟨[.st .bu,.mp (.str) (.st .aJ)],[.int .i64],none,fun x=>sG (x.1) (x.2)⟩
noncomputable def IL:aQ:=⟨[.st .Home],[.int .i64],some fun x=>yY x,fun x=>fS x⟩
noncomputable def IM:aQ:=⟨[.st .bs],[.st .bs],none,fun x=>ma x⟩
noncomputable def IN:aQ:=⟨[.st .Home,.int .i64],[.st .bu,.bool],some fun x=>yZ (x.1) (x.2),fun x=>l9 (x.1) (x.2)⟩
noncomputable def IP:aQ:=⟨[.st .Home,.st .dh],[.st .Attr,.bool],some fun x=>Cn (x.1) (x.2),fun x=>uy (x.1) (x.2)⟩
noncomputable def IQ:aQ:=⟨[.st .Home,.st .bs],[.int .i64],some fun x=>Co (x.1) (x.2),fun x=>CB (x.1) (x.2)⟩
noncomputable def IS:aQ:=⟨[.st .Home,.int .i64,.str],[.st .aJ,.bool],some fun x=>GL (x.1) (x.2.1) (x.2.2),fun x=>ri (x.1) (x.2.1) (x.2.2)⟩
noncomputable def CT:aQ:=⟨[.li .cO],[.li .cO],some fun x=>B5 x,fun x=>Qx x⟩
noncomputable def IT:aQ:=⟨[.st .aJ,.str],[.st .Command,.bool],some fun x=>GM (x.1) (x.2),fun x=>ze (x.1) (x.2)⟩
noncomputable def IU:aQ:=⟨[.st .Home,.st .bs],[.int .i64],some fun x=>GN (x.1) (x.2),fun x=>CD (x.1) (x.2)⟩
noncomputable def IV:aQ:=⟨[.st .Home,.st .bs],[.int .i64],some fun x=>Cp (x.1) (x.2),fun x=>zg (x.1) (x.2)⟩
noncomputable def IW:aQ:=⟨[.st .Home,.st .bs],[.int .i64],some fun x=>Cq (x.1) (x.2),fun x=>mL (x.1) (x.2)⟩
noncomputable def IX:aQ:=⟨[.li .str,.str],[.bool],none,fun x=>ur (x.1) (x.2)⟩
noncomputable def IY:aQ:=⟨[.st .Attr],[.int .i64],some fun x=>ux x,fun x=>p3 x⟩
noncomputable def IZ:aQ:=⟨[.st .aJ,.str],[.int .i64],none,fun x=>oJ (x.1) (x.2)⟩
noncomputable def I0:aQ:=⟨[.st .aJ],[.bool],none,fun x=>y7 x⟩
noncomputable def I1:aQ:=⟨[.li .str,.li .str],[.bool],some fun x=>Cs (x.1) (x.2),fun x=>y2 (x.1) (x.2)⟩
noncomputable def I2:aQ:=⟨[.st .Attr,.st .Attr],[.bool],some fun x=>GO (x.1) (x.2),fun x=>y4 (x.1) (x.2)⟩
noncomputable def I3:aQ:=⟨[.st .aJ,.str],[.st .Attr,.bool],some fun x=>Ct (x.1) (x.2),fun x=>uv (x.1) (x.2)⟩
noncomputable def I4:aQ:=⟨[.st .Attr,.st .cd],[.int .i64],some fun x=>zb (x.1) (x.2),fun x=>wm (x.1) (x.2)⟩
noncomputable def I5:aQ:=⟨[.st .cO,.st .Attr,.st .Attr],[.bool],some fun x=>Cu (x.1) (x.2.1) (x.2.2),fun x=>Cf (x.1) (x.2.1) (x.2.2)⟩
noncomputable def I6:aQ:=⟨[.st .aJ,.st .Attr,.st .cO],[.int .i64],some fun x=>Cv (x.1) (x.2.1) (x.2.2),fun x=>y5 (x.1) (x.2.1) (x.2.2)⟩
noncomputable def I7:aQ:=⟨[.st .aJ,.int .i64],[.int .i64],some fun x=>GR (x.1) (x.2),fun x=>y6 (x.1) (x.2)⟩
noncomputable def I8:aQ:=⟨[.st .aJ],[.int .i64],some fun x=>GU x,fun x=>y8 x⟩
noncomputable def I9:aQ:=⟨[.li .aJ],[.int .i64],some fun x=>GV x,fun x=>y9 x⟩
noncomputable def Ja:aQ:=⟨[.li .str,.str],[.int .i64],none,fun x=>re (x.1) (x.2)⟩
noncomputable def Jb:aQ:=⟨[.st .Home,.str],[.int .i64],some fun x=>Cw (x.1) (x.2),fun x=>lD (x.1) (x.2)⟩
noncomputable def Jc:aQ:=⟨[.st .Home,.st .bu],[.int .i64],some fun x=>GX (x.1) (x.2),fun x=>rh (x.1) (x.2)⟩
noncomputable def Jd:aQ:=⟨[.st .Home,.int .i64],[.int .i64],some fun x=>GY (x.1) (x.2),fun x=>p8 (x.1) (x.2)⟩
noncomputable def Je:aQ:=⟨[.st .Home],[.int .i64],some fun x=>Cx x,fun x=>p7 x⟩
noncomputable def Jf:aQ:=⟨[.st .bs],[.bool],none,fun x=>wy x⟩
noncomputable def Jg:aQ:=⟨[.st .Home,.int .i64],[.int .i64],some fun x=>Qy (x.1) (x.2),fun x=>p9 (x.1) (x.2)⟩
noncomputable def Jh:aQ:=⟨[.st .Home,.int .i64,.str],[.st .aJ,.bool],some fun x=>Cy (x.1) (x.2.1) (x.2.2),fun x=>sJ (x.1) (x.2.1) (x.2.2)⟩
noncomputable def Ji:aQ:=⟨[.st .Home,.st .dh],[.st .Attr,.bool],some fun x=>G4 (x.1) (x.2),fun x=>zc (x.1) (x.2)⟩
noncomputable def Jj:aQ:=⟨[.st .Home,.st .bs],[.int .i64],some fun x=>G5 (x.1) (x.2),fun x=>CA (x.1) (x.2)⟩
noncomputable def Jk:aQ:=⟨[.st .aJ,.str],[.st .Command,.bool],none,fun x=>zd (x.1) (x.2)⟩
noncomputable def Jl:aQ:=⟨[.st .Home,.st .bs],[.int .i64],some fun x=>G6 (x.1) (x.2),fun x=>CC (x.1) (x.2)⟩
noncomputable def Jm:aQ:=⟨[.st .Home,.st .bs],[.int .i64],some fun x=>Cz (x.1) (x.2),fun x=>zf (x.1) (x.2)⟩
noncomputable def Jn:aQ:=⟨[.str],[.int .u64],some fun x=>G9 x,fun x=>Qz x⟩
noncomputable def Jo:aQ:=⟨[.int .u64,.str],[.int .i64],some fun x=>CF (x.1) (x.2),fun x=>HD (x.1) (x.2)⟩
noncomputable def Jp:aQ:=⟨[.int .u64,.str],[.str,.int .i64],some fun x=>Ha (x.1) (x.2),fun x=>qa (x.1) (x.2)⟩
noncomputable def Jq:aQ:=⟨[.st .eL],[.int .i64],some fun x=>QB x,fun x=>QA x⟩
noncomputable def Jr:aQ:=⟨[.int .u64,.str],[.st .eL,.int .i64],some fun x=>Hb (x.1) (x.2),fun x=>HE (x.1) (x.2)⟩
noncomputable def Js:aQ:=⟨[.li .i64,.int .i64],[.int .i64],none,fun x=>QC (x.1) (x.2)⟩
noncomputable def Jt:aQ:=⟨[.li .i64,.int .i64],[.bool],none,fun x=>QD (x.1) (x.2)⟩
noncomputable def Ju:aQ:=⟨[.int .u64,.str,.int .i64,.li .i64],[.st .eL,.int .i64],some fun x=>Hc (x.1) (x.2.1) (x.2.2.1) (x.2.2.2),fun x=>lE (x.1) (x.2.1) (x.2.2.1) (x.2.2.2)⟩
noncomputable def Jv:aQ:=⟨[.st .eR],[.bool],none,fun x=>zy x⟩
noncomputable def Jw:aQ:=⟨[.li .eR],[.int .i64],none,fun x=>HF x⟩
noncomputable def Jx:aQ:=⟨[.st .Home,.li .cw,.int .i64],[.int .i64],some fun x=>CK (x.1) (x.2.1) (x.2.2),fun x=>HG (x.1) (x.2.1) (x.2.2)⟩
noncomputable def Jy:aQ:=⟨[.st .cw],[.bool],none,fun x=>QE x⟩
noncomputable def Jz:aQ:=⟨[.st .Home,.li .cw],[.int .i64],some fun x=>Hf (x.1) (x.2),fun x=>HH (x.1) (x.2)⟩
noncomputable def CU:aQ:=⟨[.li .eR],[.li .eR],some fun x=>Hh x,fun x=>QF x⟩
noncomputable def JA:aQ:=⟨[.li .cw,.str],[.st .cw,.bool],some fun x=>Hg (x.1) (x.2),fun x=>HI (x.1) (x.2)⟩
noncomputable def JB:aQ:=⟨[.st .Home,.int .i64],[.str],some fun x=>rm (x.1) (x.2),fun x=>oU (x.1) (x.2)⟩
noncomputable def JC:aQ:=⟨[.st .Home,.st .dh],[.bool],some fun x=>CM (x.1) (x.2),fun x=>C7 (x.1) (x.2)⟩
noncomputable def JD:aQ:=⟨[.st .Home,.int .i64],[.li .dh],some fun x=>Hi (x.1) (x.2),fun x=>HJ (x.1) (x.2)⟩
noncomputable def JE:aQ:=⟨[.st .Home,.st .bs],[.bool],some fun x=>wC (x.1) (x.2),fun x=>C8 (x.1) (x.2)⟩
noncomputable def JF:aQ:=⟨[.st .Home,.st .cw,.int .i64,.st .bs],[.int .i64],some fun x=>CN (x.1) (x.2.1) (x.2.2.1) (x.2.2.2),fun x=>QG (x.1) (x.2.1) (x.2.2.1) (x.2.2.2)⟩
noncomputable def JG:aQ:=⟨[.st .Home,.li .cw,.str,.int .i64,.st .bs],[.int .i64],some fun x=>Hj (x.1) (x.2.1) (x.2.2.1) (x.2.2.2.1) (x.2.2.2.2),fun x=>uB (x.1) (x.2.1) (x.2.2.1) (x.2.2.2.1) (x.2.2.2.2)⟩
noncomputable def JH:aQ:=⟨[.li .cH,.str],[.int .i64,.bool],none,fun x=>jY (x.1) (x.2)⟩
noncomputable def JI:aQ:=⟨[],[.st .fl],none,fun x=>HK⟩
noncomputable def JJ:aQ:=⟨[.st .fl],[.int .i64],some fun x=>Hk x,fun x=>zj x⟩
noncomputable def JK:aQ:=⟨[.st .fl,.int .i64],[.st .fl,.bool],some fun x=>Hl (x.1) (x.2),fun x=>uA (x.1) (x.2)⟩
noncomputable def JL:aQ:=⟨[.st .Config,.li .cw,.li .cH,.li .i64,.st .ir,.int .i64,.int .i64],[.str,.li .cH,.int .i64],some fun x=>wD (x.1) (x.2.1) (x.2.2.1) (x.2.2.2.1) (x.2.2.2.2.1) (x.2.2.2.2.2.1) (x.2.2.2.2.2.2),fun x=>qb (x.1) (x.2.1) (x.2.2.1) (x.2.2.2.1) (x.2.2.2.2.1) (x.2.2.2.2.2.1) (x.2.2.2.2.2.2)⟩
noncomputable def jh:aQ:=⟨[],[.li .aJ],some fun x=>QI,fun x=>QH⟩
noncomputable def JM:aQ:=⟨[],[.st .Config,.li .cw],some fun x=>QJ,fun x=>CR⟩
noncomputable def JN:aQ:=⟨[.st .eL],[.int .i64],some fun x=>QK x,fun x=>HL x⟩
noncomputable def JO:aQ:=⟨[.int .i64],[.str],none,fun x=>zi x⟩
noncomputable def JP:aQ:=⟨[.str],[.int .u64],some fun x=>QM x,fun x=>QL x⟩
noncomputable def JQ:aQ:=⟨[.int .u64],[.str],some fun x=>CH x,fun x=>wB x⟩
noncomputable def JR:aQ:=⟨[.int .u64,.str],[.int .i64],some fun x=>CI (x.1) (x.2),fun x=>CJ (x.1) (x.2)⟩
noncomputable def JS:aQ:=⟨[.int .u64,.str],[.str],some fun x=>He (x.1) (x.2),fun x=>CP (x.1) (x.2)⟩
noncomputable def JT:aQ:=⟨[.st .eL],[.str],some fun x=>CQ x,fun x=>zm x⟩
noncomputable def JU:aQ:=⟨[.int .u64,.st .eL],[.str,.int .i64],some fun x=>Ho (x.1) (x.2),fun x=>zl (x.1) (x.2)⟩
noncomputable def JV:aQ:=⟨[],[.bool],some fun x=>wF,fun x=>zo⟩
noncomputable def pM:aQ:=⟨[.st .Home,.st .bs],[.bool],some fun x=>OP (x.1) (x.2),fun x=>BM (x.1) (x.2)⟩
noncomputable def pK:aQ:=⟨[.st .bs,.str],[.bool],some fun x=>OK (x.1) (x.2),fun x=>BL (x.1) (x.2)⟩
noncomputable def uO:List aQ:=[HM,HN,HO,HP,HQ,HR,HS,HT,HU,HV,HW,HX,HY,HZ,H0,H2,H3,H4,H5,H6,H7,H8,H9,Ia,Ib,Ic,Ie,Ig,Ih,Ii,Ij,Ik,Il,Im,Io,Ip,Iq,Ir,Is,It,Iu,Iv,Iw,Ix,Iy,CS,Iz,IA,IB,IC,ID,IE,IF,IG,IH,II,IJ,IK,IL,IM,IN,IP,IQ,IS,CT,IT,IU,IV,IW,IX,IY,IZ,I0,I1,I2,I3,I4,I5,I6,I7,I8,I9,Ja,Jb,Jc,Jd,Je,Jf,Jg,Jh,Ji,Jj,Jk,Jl,Jm,Jn,Jo,Jp,Jq,Jr,Js,Jt,Ju,Jv,Jw,Jx,Jy,Jz,CU,JA,JB,JC,JD,JE,JF,JG,JH,JI,JJ,JK,JL,jh,JM,JN,JO,JP,JQ,JR,JS,JT,JU,JV,pM,pK]
def AC:List h9:=[⟨93,0,[.int .i64],[.str],false⟩,⟨94,1,[.str],[.str],false⟩,⟨193,2,[.int .i64],[.bool],true⟩,⟨119,3,[.st .cd],[.int .i64],true⟩,⟨95,4,[.st .cd],[.str],false⟩,⟨28,5,[.st .bs],[.str],false⟩,⟨152,7,[.str],[.int .u64,.int .i64,.int .i64],false⟩,⟨67,15,[.st .bs],[.int .i64],true⟩,⟨69,16,[.st .bs],[.int .i64],true⟩,⟨26,17,[.str],[.st .bs,.int .i64],false⟩,⟨192,18,[.int .i32],[.bool],true⟩,⟨118,19,[.str],[.bool],false⟩,⟨50,24,[.st .cd],[.int .i64],true⟩,⟨27,28,[.str],[.st .bs,.int .i64],false⟩,⟨96,29,[.int .i64],[.str],false⟩,⟨97,30,[.str],[.str],false⟩,⟨98,31,[.st .cd],[.str],false⟩,⟨29,32,[.st .bs],[.str],false⟩,⟨78,33,[.str],[.bool],false⟩,⟨54,34,[.str],[.str],false⟩,⟨200,35,[.int .i64],[.int .i64],true⟩,⟨199,36,[.int .u8],[.int .i64],false⟩,⟨128,37,[.str],[.str,.int .i64],false⟩,⟨259,38,[.li .str,.str],[.int .i64],true⟩,⟨237,39,[.li .str,.str],[.bool],true⟩,⟨206,40,[.li .str,.str],[.int .i64],true⟩,⟨280,41,[.li .str],[.int .i64],false⟩,⟨242,42,[.st .Attr],[.int .i64],false⟩,⟨257,43,[.st .aJ],[.bool],true⟩,⟨292,44,[.st .Attr],[.bool],true⟩,⟨224,45,[.li .str],[.li .str],false⟩,⟨261,46,[.st .aJ,.str],[.st .Attr,.bool],false⟩,⟨208,47,[.st .Attr,.st .cd],[.int .i64],false⟩,⟨316,48,[.li .str,.li .str],[.bool],false⟩,⟨315,49,[.st .Attr,.st .Attr],[.bool],false⟩,⟨311,50,[.st .cO,.st .Attr,.st .Attr],[.bool],false⟩,⟨293,51,[.st .aJ,.st .Attr,.st .cO],[.int .i64],false⟩,⟨258,52,[.st .aJ,.int .i64],[.int .i64],false⟩,⟨205,53,[.st .aJ],[.int .i64],false⟩,⟨136,54,[.li .aJ],[.int .i64],false⟩,⟨137,55,[.st .Home],[.mp (.str) (.st .aJ)],true⟩,⟨138,56,[.st .bu],[.bool],true⟩,⟨139,57,[.st .bu,.mp (.str) (.st .aJ)],[.int .i64],true⟩,⟨65,58,[.st .Home],[.int .i64],false⟩,⟨71,59,[.st .bs],[.st .bs],true⟩,⟨260,60,[.st .Home,.int .i64],[.st .bu,.bool],false⟩,⟨207,61,[.st .Home,.st .dh],[.st .Attr,.bool],false⟩,⟨140,62,[.st .Home,.st .bs],[.int .i64],false⟩,⟨180,63,[.st .Home,.int .i64,.str],[.st .aJ,.bool],false⟩,⟨262,64,[.li .cO],[.li .cO],false⟩,⟨209,65,[.st .aJ,.str],[.st .Command,.bool],false⟩,⟨141,66,[.st .Home,.st .bs],[.int .i64],false⟩,⟨73,67,[.st .Home,.st .bs],[.int .i64],false⟩,⟨23,68,[.st .Home,.st .bs],[.int .i64],false⟩,⟨247,69,[.li .str,.str],[.bool],true⟩,⟨187,70,[.st .Attr],[.int .i64],false⟩,⟨190,71,[.st .aJ,.str],[.int .i64],true⟩,⟨248,72,[.st .aJ],[.bool],true⟩,⟨302,73,[.li .str,.li .str],[.bool],false⟩,⟨283,74,[.st .Attr,.st .Attr],[.bool],false⟩,⟨211,75,[.st .aJ,.str],[.st .Attr,.bool],false⟩,⟨145,76,[.st .Attr,.st .cd],[.int .i64],false⟩,⟨303,77,[.st .cO,.st .Attr,.st .Attr],[.bool],false⟩,⟨284,78,[.st .aJ,.st .Attr,.st .cO],[.int .i64],false⟩,⟨249,79,[.st .aJ,.int .i64],[.int .i64],false⟩,⟨189,80,[.st .aJ],[.int .i64],false⟩,⟨142,81,[.li .aJ],[.int .i64],false⟩,⟨184,82,[.li .str,.str],[.int .i64],true⟩,⟨185,83,[.st .Home,.str],[.int .i64],false⟩,⟨210,84,[.st .Home,.st .bu],[.int .i64],false⟩,⟨143,85,[.st .Home,.int .i64],[.int .i64],false⟩,⟨74,86,[.st .Home],[.int .i64],false⟩,⟨75,87,[.st .bs],[.bool],true⟩,⟨175,88,[.st .Home,.int .i64],[.int .i64],false⟩,⟨114,89,[.st .Home,.int .i64,.str],[.st .aJ,.bool],false⟩,⟨144,90,[.st .Home,.st .dh],[.st .Attr,.bool],false⟩,⟨76,91,[.st .Home,.st .bs],[.int .i64],false⟩,⟨146,92,[.st .aJ,.str],[.st .Command,.bool],true⟩,⟨77,93,[.st .Home,.st .bs],[.int .i64],false⟩,⟨24,94,[.st .Home,.st .bs],[.int .i64],false⟩,⟨295,95,[.str],[.int .u64],false⟩,⟨266,96,[.int .u64,.str],[.int .i64],false⟩,⟨217,97,[.int .u64,.str],[.str,.int .i64],false⟩,⟨218,98,[.st .eL],[.int .i64],false⟩,⟨159,99,[.int .u64,.str],[.st .eL,.int .i64],false⟩,⟨219,100,[.li .i64,.int .i64],[.int .i64],true⟩,⟨160,101,[.li .i64,.int .i64],[.bool],true⟩,⟨100,102,[.int .u64,.str,.int .i64,.li .i64],[.st .eL,.int .i64],false⟩,⟨296,103,[.st .eR],[.bool],true⟩,⟨268,104,[.li .eR],[.int .i64],true⟩,⟨220,105,[.st .Home,.li .cw,.int .i64],[.int .i64],false⟩,⟨222,106,[.st .cw],[.bool],true⟩,⟨161,107,[.st .Home,.li .cw],[.int .i64],false⟩,⟨223,108,[.li .eR],[.li .eR],false⟩,⟨162,109,[.li .cw,.str],[.st .cw,.bool],false⟩,⟨272,110,[.st .Home,.int .i64],[.str],false⟩,⟨297,111,[.st .Home,.st .dh],[.bool],false⟩,⟨299,112,[.st .Home,.int .i64],[.li .dh],false⟩,⟨273,113,[.st .Home,.st .bs],[.bool],false⟩,⟨163,114,[.st .Home,.st .cw,.int .i64,.st .bs],[.int .i64],false⟩,⟨103,115,[.st .Home,.li .cw,.str,.int .i64,.st .bs],[.int .i64],false⟩,⟨104,116,[.li .cH,.str],[.int .i64,.bool],true⟩,⟨105,117,[],[.st .fl],true⟩,⟨167,118,[.st .fl],[.int .i64],false⟩,⟨106,119,[.st .fl,.int .i64],[.st .fl,.bool],false⟩,⟨31,120,[.st .Config,.li .cw,.li .cH,.li .i64,.st .ir,.int .i64,.int .i64],[.str,.li .cH,.int .i64],false⟩,⟨147,121,[],[.li .aJ],false⟩,⟨79,122,[],[.st .Config,.li .cw],false⟩,⟨148,123,[.st .eL],[.int .i64],false⟩,⟨215,124,[.int .i64],[.str],true⟩,⟨263,125,[.str],[.int .u64],false⟩,⟨264,126,[.int .u64],[.str],false⟩,⟨216,127,[.int .u64,.str],[.int .i64],false⟩,⟨149,128,[.int .u64,.str],[.str],false⟩,⟨150,129,[.st .eL],[.str],false⟩,⟨80,130,[.int .u64,.st .eL],[.str,.int .i64],false⟩,⟨25,131,[],[.bool],false⟩,⟨6,132,[.st .Home,.st .bs],[.bool],false⟩,⟨7,133,[.st .bs,.str],[.bool],false⟩]
def JW:List j0:=[⟨151,6,206,.Rd,[],[.int .i64],true⟩,⟨82,8,206,.Rd,[],[.int .i64],false⟩,⟨153,9,206,.Rd,[.int .i64],[.int .i64],false⟩,⟨83,10,206,.Rd,[.int .i64],[.str],false⟩,⟨154,11,206,.Rd,[.int .i64],[],true⟩,⟨84,12,206,.Rd,[],[.st .cd],false⟩,⟨155,13,206,.Rd,[],[.int .i64],true⟩,⟨85,14,206,.Rd,[],[.int .i64],true⟩,⟨156,20,212,.cn,[],[.int .i64],true⟩,⟨89,21,212,.cn,[],[.int .i64],false⟩,⟨157,22,212,.cn,[.int .i64],[.int .i64],false⟩,⟨90,23,212,.cn,[.int .i64],[.str],false⟩,⟨158,25,212,.cn,[.int .i64],[],true⟩,⟨91,26,212,.cn,[],[.st .cd],false⟩,⟨92,27,212,.cn,[],[.int .i64],true⟩]
@[reducible] noncomputable def bh:Program:=Go.Proofs.Tryz.prog
def C5:List lG:=[⟨99,132,.cH,32⟩,⟨245,25,.cd,32⟩]
def zw:List lG:=[⟨107,132,.cH,32⟩]
@[reducible] noncomputable def zaW(k j:Nat):Nat→List ab→ao→aC:=C3 bh (jG.all bh uH) uH (60,108,5) C5 zw (JW.take j) (AC.take k) 16
structure bD (G:a7) (k j:Nat):Prop where
 z:uK bh G 60 108 5
 r: ∀r∈C5,nL bh G r
 ii: ∀r∈zw,uC bh G r
 c:rn bh G uO (AC.take k)
 b:JX bh G uO (JW.take j)
theorem QN{α:Type}{l:List α}{k:Nat}{c:α}(h:l[k]? =some c){d:α}(hd:d∈l.take (k+1)):d∈l.take k∨d=c:=by
 rw[List.take_add_one,h,Option.toList_some,List.mem_append,List.mem_singleton]at hd
 exact hd
section
variable {G:a7}
theorem bD.i{k j:Nat}(h:bD G k j):fO bh G uO (zaW k j):=HB (Z:=(60,108,5)) Hu h.r h.ii h.z h.b h.c 16
theorem bD.cs{k j:Nat}(h:bD G k j)(c:h9)(m:aQ)(aj:AC[k]? =some c)(hm:eT aQ.d uO c.j=m)(ak:m.ps=c.ps)(ag:m.rs=c.rs)(an:bI bh G c.f m)(hc:c.eO=true→m.pre=none):bD G (k+1) j:=
 ⟨h.z,h.r,h.ii,fun d hd=>(QN aj hd).elim (h.c d) (fun e=>e ▸ (by subst hm;exact⟨ak,ag,an,hc⟩)),h.b⟩
theorem bD.cB{k j:Nat}(h:bD G k j)(c:j0)(m:aQ)(aj:JW[j]? =some c)(hm:eT aQ.d uO c.j=m)(ak:m.ps= .st c.c::c.ps)(ag:m.rs= .st c.c::c.rs)(an:jj bh G c.f c.t m)(hc:c.eO=true→m.pre=none):bD G k (j+1):=
 ⟨h.z,h.r,h.ii,h.c,fun d hd=>(QN aj hd).elim (h.b d) (fun e=>e ▸ (by subst hm;exact⟨ak,ag,an,hc⟩))⟩
end
end Go.aK
