/- Contracts: data. Conditions: none. -/
import Derived.Test.YtmkpmgfieagphaaGreatDoorKPm
import Derived.Test.YtmkpmgfieagphaaGreatDoorKTEp
import Derived.Test.YtmkpmgfieagphaaGreatDoorProg
open Go Go.aL Go.eL
namespace Go.aL
def uI:List (Nat × bL):=[(2,.i64),(3,.i64),(4,.bool),(5,.u8),(6,.u8),(9,.str),(10,.str),(11,.str),(23,.di),(25,.cf),(27,.mX),(29,.bu),(31,.iu),(33,.nO),(34,.i64),(51,.Home),(62,.mY),(65,.Config),(70,.Case),(78,.fm),(83,.mZ),(130,.eM),(132,.cI),(142,.cx),(155,.nP),(159,.aK),(164,.jj),(168,.Attr),(189,.bw),(198,.Command),(206,.Rd),(212,.cp),(236,.cP),(261,.eS),(340,.u8),(341,.u8),(349,.jK),(351,.j0),(353,.Change)]
noncomputable def HN:aR:=⟨[.int .i64],[.str],some fun x=>oz x,fun x=>fW x⟩
noncomputable def HO:aR:=⟨[.str],[.str],some fun x=>sz x,fun x=>h8 x⟩
noncomputable def HP:aR:=⟨[.int .i64],[.bool],none,fun x=>sA x⟩
noncomputable def HQ:aR:=⟨[.st .cf],[.int .i64],none,fun x=>kv x⟩
noncomputable def HR:aR:=⟨[.st .cf],[.str],some fun x=>Gr x,fun x=>mS x⟩
noncomputable def HS:aR:=⟨[.st .bu],[.str],some fun x=>B5 x,fun x=>oy x⟩
noncomputable def HT:aR:=⟨[.st .Rd],[.st .Rd,.int .i64],none,fun x=>nB x⟩
noncomputable def HU:aR:=⟨[.str],[.int .u64,.int .i64,.int .i64],some fun x=>Gk x,fun x=>yN x⟩
noncomputable def HV:aR:=⟨[.st .Rd],[.st .Rd,.int .i64],some fun x=>nD x,fun x=>gr x⟩
noncomputable def HW:aR:=⟨[.st .Rd,.int .i64],[.st .Rd,.int .i64],some fun x=>Gl (x.1) (x.2),fun x=>yQ (x.1) (x.2)⟩
noncomputable def HX:aR:=⟨[.st .Rd,.int .i64],[.st .Rd,.str],some fun x=>sC (x.1) (x.2),fun x=>hI (x.1) (x.2)⟩
noncomputable def HY:aR:=⟨[.st .Rd,.int .i64],[.st .Rd],none,fun x=>BW (x.1) (x.2)⟩
noncomputable def HZ:aR:=⟨[.st .Rd],[.st .Rd,.st .cf],some fun x=>BZ x,fun x=>ug x⟩
noncomputable def H0:aR:=⟨[.st .Rd],[.st .Rd,.int .i64],none,fun x=>Gj x⟩
noncomputable def H2:aR:=⟨[.st .Rd],[.st .Rd,.int .i64],none,fun x=>v8 x⟩
noncomputable def H3:aR:=⟨[.st .bu],[.int .i64],none,fun x=>wa x⟩
noncomputable def H4:aR:=⟨[.st .bu],[.int .i64],none,fun x=>wb x⟩
noncomputable def H5:aR:=⟨[.str],[.st .bu,.int .i64],some fun x=>yS x,fun x=>uj x⟩
noncomputable def H6:aR:=⟨[.int .i32],[.bool],none,fun x=>HD x⟩
noncomputable def H7:aR:=⟨[.str],[.bool],some fun x=>nI x,fun x=>ir x⟩
noncomputable def H8:aR:=⟨[.st .cp],[.st .cp,.int .i64],none,fun x=>mQ x⟩
noncomputable def H9:aR:=⟨[.st .cp],[.st .cp,.int .i64],some fun x=>q8 x,fun x=>iI x⟩
noncomputable def Ia:aR:=⟨[.st .cp,.int .i64],[.st .cp,.int .i64],some fun x=>Gp (x.1) (x.2),fun x=>yR (x.1) (x.2)⟩
noncomputable def Ib:aR:=⟨[.st .cp,.int .i64],[.st .cp,.str],some fun x=>um (x.1) (x.2),fun x=>iZ (x.1) (x.2)⟩
noncomputable def Ic:aR:=⟨[.st .cf],[.int .i64],none,fun x=>pS x⟩
noncomputable def Ie:aR:=⟨[.st .cp,.int .i64],[.st .cp],none,fun x=>BX (x.1) (x.2)⟩
noncomputable def Ig:aR:=⟨[.st .cp],[.st .cp,.st .cf],some fun x=>B2 x,fun x=>ui x⟩
noncomputable def Ih:aR:=⟨[.st .cp],[.st .cp,.int .i64],none,fun x=>BY x⟩
noncomputable def Ii:aR:=⟨[.str],[.st .bu,.int .i64],some fun x=>B3 x,fun x=>yU x⟩
noncomputable def Ij:aR:=⟨[.int .i64],[.str],some fun x=>iG x,fun x=>fB x⟩
noncomputable def Ik:aR:=⟨[.str],[.str],some fun x=>pR x,fun x=>iH x⟩
noncomputable def Il:aR:=⟨[.st .cf],[.str],some fun x=>Gs x,fun x=>uq x⟩
noncomputable def Im:aR:=⟨[.st .bu],[.str],some fun x=>Gu x,fun x=>yW x⟩
noncomputable def Io:aR:=⟨[.str],[.bool],some fun x=>p1 x,fun x=>jX x⟩
noncomputable def Ip:aR:=⟨[.str],[.str],some fun x=>G9 x,fun x=>Qx x⟩
noncomputable def Iq:aR:=⟨[.int .i64],[.int .i64],none,fun x=>Ce x⟩
noncomputable def Ir:aR:=⟨[.int .u8],[.int .i64],some fun x=>zi x,fun x=>zy x⟩
noncomputable def Is:aR:=⟨[.str],[.str,.int .i64],some fun x=>CF x,fun x=>oP x⟩
noncomputable def It:aR:=⟨[.li .str,.str],[.int .i64],none,fun x=>mT (x.1) (x.2)⟩
noncomputable def Iu:aR:=⟨[.li .str,.str],[.bool],none,fun x=>iK (x.1) (x.2)⟩
noncomputable def Iv:aR:=⟨[.li .str,.str],[.int .i64],none,fun x=>p3 (x.1) (x.2)⟩
noncomputable def Iw:aR:=⟨[.li .str],[.int .i64],some fun x=>B7 x,fun x=>wk x⟩
noncomputable def Ix:aR:=⟨[.st .Attr],[.int .i64],some fun x=>wj x,fun x=>kZ x⟩
noncomputable def Iy:aR:=⟨[.st .aK],[.bool],none,fun x=>oL x⟩
noncomputable def Iz:aR:=⟨[.st .Attr],[.bool],none,fun x=>uv x⟩
noncomputable def CT:aR:=⟨[.li .str],[.li .str],some fun x=>wi x,fun x=>C7 x⟩
noncomputable def IA:aR:=⟨[.st .aK,.str],[.st .Attr,.bool],some fun x=>yY (x.1) (x.2),fun x=>sG (x.1) (x.2)⟩
noncomputable def IB:aR:=⟨[.st .Attr,.st .cf],[.int .i64],some fun x=>yX (x.1) (x.2),fun x=>wq (x.1) (x.2)⟩
noncomputable def IC:aR:=⟨[.li .str,.li .str],[.bool],some fun x=>Gy (x.1) (x.2),fun x=>y4 (x.1) (x.2)⟩
noncomputable def ID:aR:=⟨[.st .Attr,.st .Attr],[.bool],some fun x=>Gz (x.1) (x.2),fun x=>Cf (x.1) (x.2)⟩
noncomputable def IE:aR:=⟨[.st .cP,.st .Attr,.st .Attr],[.bool],some fun x=>B9 (x.1) (x.2.1) (x.2.2),fun x=>Ch (x.1) (x.2.1) (x.2.2)⟩
noncomputable def IF:aR:=⟨[.st .aK,.st .Attr,.st .cP],[.int .i64],some fun x=>Ca (x.1) (x.2.1) (x.2.2),fun x=>p5 (x.1) (x.2.1) (x.2.2)⟩
noncomputable def IG:aR:=⟨[.st .aK,.int .i64],[.int .i64],some fun x=>Cb (x.1) (x.2),fun x=>rh (x.1) (x.2)⟩
noncomputable def IH:aR:=⟨[.st .aK],[.int .i64],some fun x=>GB x,fun x=>p6 x⟩
noncomputable def II:aR:=⟨[.li .aK],[.int .i64],some fun x=>GC x,fun x=>nK x⟩
noncomputable def IJ:aR:=⟨[.st .Home],[.mp (.str) (.st .aK)],none,fun x=>kC x⟩
noncomputable def IK:aR:=⟨[.st .bw],[.bool],none,fun x=>wx x⟩
noncomputable def IL:aR:=⟨[.st .bw,.mp (.str) (.st .aK)],[.int .i64],none,fun x=>sH (x.1) (x.2)⟩
noncomputable def IM:aR:=⟨[.st .Home],[.int .i64],some fun x=>yZ x,fun x=>fT x⟩
noncomputable def IN:aR:=⟨[.st .bu],[.st .bu],none,fun x=>mb x⟩
noncomputable def IP:aR:=⟨[.st .Home,.int .i64],[.st .bw,.bool],some fun x=>y0 (x.1) (x.2),fun x=>ma (x.1) (x.2)⟩
noncomputable def IQ:aR:=⟨[.st .Home,.st .di],[.st .Attr,.bool],some fun x=>Co (x.1) (x.2),fun x=>uz (x.1) (x.2)⟩
noncomputable def IS:aR:=⟨[.st .Home,.st .bu],[.int .i64],some fun x=>Cp (x.1) (x.2),fun x=>CC (x.1) (x.2)⟩
noncomputable def IT:aR:=⟨[.st .Home,.int .i64,.str],[.st .aK,.bool],some fun x=>GM (x.1) (x.2.1) (x.2.2),fun x=>rj (x.1) (x.2.1) (x.2.2)⟩
noncomputable def CU:aR:=⟨[.li .cP],[.li .cP],some fun x=>B6 x,fun x=>Qy x⟩
noncomputable def IU:aR:=⟨[.st .aK,.str],[.st .Command,.bool],some fun x=>GN (x.1) (x.2),fun x=>zf (x.1) (x.2)⟩
noncomputable def IV:aR:=⟨[.st .Home,.st .bu],[.int .i64],some fun x=>GO (x.1) (x.2),fun x=>CE (x.1) (x.2)⟩
noncomputable def IW:aR:=⟨[.st .Home,.st .bu],[.int .i64],some fun x=>Cq (x.1) (x.2),fun x=>zh (x.1) (x.2)⟩
noncomputable def IX:aR:=⟨[.st .Home,.st .bu],[.int .i64],some fun x=>Cr (x.1) (x.2),fun x=>mM (x.1) (x.2)⟩
noncomputable def IY:aR:=⟨[.li .str,.str],[.bool],none,fun x=>uu (x.1) (x.2)⟩
noncomputable def IZ:aR:=⟨[.st .Attr],[.int .i64],some fun x=>uy x,fun x=>p4 x⟩
noncomputable def I0:aR:=⟨[.st .aK,.str],[.int .i64],none,fun x=>oK (x.1) (x.2)⟩
noncomputable def I1:aR:=⟨[.st .aK],[.bool],none,fun x=>y8 x⟩
noncomputable def I2:aR:=⟨[.li .str,.li .str],[.bool],some fun x=>Ct (x.1) (x.2),fun x=>y3 (x.1) (x.2)⟩
noncomputable def I3:aR:=⟨[.st .Attr,.st .Attr],[.bool],some fun x=>GQ (x.1) (x.2),fun x=>y5 (x.1) (x.2)⟩
noncomputable def I4:aR:=⟨[.st .aK,.str],[.st .Attr,.bool],some fun x=>Cu (x.1) (x.2),fun x=>uw (x.1) (x.2)⟩
noncomputable def I5:aR:=⟨[.st .Attr,.st .cf],[.int .i64],some fun x=>zc (x.1) (x.2),fun x=>wo (x.1) (x.2)⟩
noncomputable def I6:aR:=⟨[.st .cP,.st .Attr,.st .Attr],[.bool],some fun x=>Cv (x.1) (x.2.1) (x.2.2),fun x=>Cg (x.1) (x.2.1) (x.2.2)⟩
noncomputable def I7:aR:=⟨[.st .aK,.st .Attr,.st .cP],[.int .i64],some fun x=>Cw (x.1) (x.2.1) (x.2.2),fun x=>y6 (x.1) (x.2.1) (x.2.2)⟩
noncomputable def I8:aR:=⟨[.st .aK,.int .i64],[.int .i64],some fun x=>GU (x.1) (x.2),fun x=>y7 (x.1) (x.2)⟩
noncomputable def I9:aR:=⟨[.st .aK],[.int .i64],some fun x=>GV x,fun x=>y9 x⟩
noncomputable def Ja:aR:=⟨[.li .aK],[.int .i64],some fun x=>GX x,fun x=>za x⟩
noncomputable def Jb:aR:=⟨[.li .str,.str],[.int .i64],none,fun x=>rf (x.1) (x.2)⟩
noncomputable def Jc:aR:=⟨[.st .Home,.str],[.int .i64],some fun x=>Cx (x.1) (x.2),fun x=>lE (x.1) (x.2)⟩
noncomputable def Jd:aR:=⟨[.st .Home,.st .bw],[.int .i64],some fun x=>GY (x.1) (x.2),fun x=>ri (x.1) (x.2)⟩
noncomputable def Je:aR:=⟨[.st .Home,.int .i64],[.int .i64],some fun x=>GZ (x.1) (x.2),fun x=>p9 (x.1) (x.2)⟩
noncomputable def Jf:aR:=⟨[.st .Home],[.int .i64],some fun x=>Cy x,fun x=>p8 x⟩
noncomputable def Jg:aR:=⟨[.st .bu],[.bool],none,fun x=>wz x⟩
noncomputable def Jh:aR:=⟨[.st .Home,.int .i64],[.int .i64],some fun x=>Qz (x.1) (x.2),fun x=>qa (x.1) (x.2)⟩
noncomputable def Ji:aR:=⟨[.st .Home,.int .i64,.str],[.st .aK,.bool],some fun x=>Cz (x.1) (x.2.1) (x.2.2),fun x=>sK (x.1) (x.2.1) (x.2.2)⟩
noncomputable def Jj:aR:=⟨[.st .Home,.st .di],[.st .Attr,.bool],some fun x=>G5 (x.1) (x.2),fun x=>zd (x.1) (x.2)⟩
noncomputable def Jk:aR:=⟨[.st .Home,.st .bu],[.int .i64],some fun x=>G6 (x.1) (x.2),fun x=>CB (x.1) (x.2)⟩
noncomputable def Jl:aR:=⟨[.st .aK,.str],[.st .Command,.bool],none,fun x=>ze (x.1) (x.2)⟩
noncomputable def Jm:aR:=⟨[.st .Home,.st .bu],[.int .i64],some fun x=>G7 (x.1) (x.2),fun x=>CD (x.1) (x.2)⟩
noncomputable def Jn:aR:=⟨[.st .Home,.st .bu],[.int .i64],some fun x=>CA (x.1) (x.2),fun x=>zg (x.1) (x.2)⟩
noncomputable def Jo:aR:=⟨[.str],[.int .u64],some fun x=>Ha x,fun x=>QA x⟩
noncomputable def Jp:aR:=⟨[.int .u64,.str],[.int .i64],some fun x=>CG (x.1) (x.2),fun x=>HE (x.1) (x.2)⟩
noncomputable def Jq:aR:=⟨[.int .u64,.str],[.str,.int .i64],some fun x=>Hb (x.1) (x.2),fun x=>qb (x.1) (x.2)⟩
noncomputable def Jr:aR:=⟨[.st .eM],[.int .i64],some fun x=>QC x,fun x=>QB x⟩
noncomputable def Js:aR:=⟨[.int .u64,.str],[.st .eM,.int .i64],some fun x=>Hc (x.1) (x.2),fun x=>HF (x.1) (x.2)⟩
noncomputable def Jt:aR:=⟨[.li .i64,.int .i64],[.int .i64],none,fun x=>QD (x.1) (x.2)⟩
noncomputable def Ju:aR:=⟨[.li .i64,.int .i64],[.bool],none,fun x=>QE (x.1) (x.2)⟩
noncomputable def Jv:aR:=⟨[.int .u64,.str,.int .i64,.li .i64],[.st .eM,.int .i64],some fun x=>Hd (x.1) (x.2.1) (x.2.2.1) (x.2.2.2),fun x=>lF (x.1) (x.2.1) (x.2.2.1) (x.2.2.2)⟩
noncomputable def Jw:aR:=⟨[.st .eS],[.bool],none,fun x=>zz x⟩
noncomputable def Jx:aR:=⟨[.li .eS],[.int .i64],none,fun x=>HG x⟩
noncomputable def Jy:aR:=⟨[.st .Home,.li .cx,.int .i64],[.int .i64],some fun x=>CL (x.1) (x.2.1) (x.2.2),fun x=>HH (x.1) (x.2.1) (x.2.2)⟩
noncomputable def Jz:aR:=⟨[.st .cx],[.bool],none,fun x=>QF x⟩
noncomputable def JA:aR:=⟨[.st .Home,.li .cx],[.int .i64],some fun x=>Hg (x.1) (x.2),fun x=>HI (x.1) (x.2)⟩
noncomputable def CV:aR:=⟨[.li .eS],[.li .eS],some fun x=>Hi x,fun x=>QG x⟩
noncomputable def JB:aR:=⟨[.li .cx,.str],[.st .cx,.bool],some fun x=>Hh (x.1) (x.2),fun x=>HJ (x.1) (x.2)⟩
noncomputable def JC:aR:=⟨[.st .Home,.int .i64],[.str],some fun x=>rn (x.1) (x.2),fun x=>oV (x.1) (x.2)⟩
noncomputable def JD:aR:=⟨[.st .Home,.st .di],[.bool],some fun x=>CN (x.1) (x.2),fun x=>C8 (x.1) (x.2)⟩
noncomputable def JE:aR:=⟨[.st .Home,.int .i64],[.li .di],some fun x=>Hj (x.1) (x.2),fun x=>HK (x.1) (x.2)⟩
noncomputable def JF:aR:=⟨[.st .Home,.st .bu],[.bool],some fun x=>wD (x.1) (x.2),fun x=>C9 (x.1) (x.2)⟩
noncomputable def JG:aR:=⟨[.st .Home,.st .cx,.int .i64,.st .bu],[.int .i64],some fun x=>CO (x.1) (x.2.1) (x.2.2.1) (x.2.2.2),fun x=>QH (x.1) (x.2.1) (x.2.2.1) (x.2.2.2)⟩
noncomputable def JH:aR:=⟨[.st .Home,.li .cx,.str,.int .i64,.st .bu],[.int .i64],some fun x=>Hk (x.1) (x.2.1) (x.2.2.1) (x.2.2.2.1) (x.2.2.2.2),fun x=>uC (x.1) (x.2.1) (x.2.2.1) (x.2.2.2.1) (x.2.2.2.2)⟩
noncomputable def JI:aR:=⟨[.li .cI,.str],[.int .i64,.bool],none,fun x=>jZ (x.1) (x.2)⟩
noncomputable def JJ:aR:=⟨[],[.st .fm],none,fun x=>HL⟩
noncomputable def JK:aR:=⟨[.st .fm],[.int .i64],some fun x=>Hl x,fun x=>zk x⟩
noncomputable def JL:aR:=⟨[.st .fm,.int .i64],[.st .fm,.bool],some fun x=>Hm (x.1) (x.2),fun x=>uB (x.1) (x.2)⟩
noncomputable def JM:aR:=⟨[.st .Config,.li .cx,.li .cI,.li .i64,.st .iu,.int .i64,.int .i64],[.str,.li .cI,.int .i64],some fun x=>wE (x.1) (x.2.1) (x.2.2.1) (x.2.2.2.1) (x.2.2.2.2.1) (x.2.2.2.2.2.1) (x.2.2.2.2.2.2),fun x=>qc (x.1) (x.2.1) (x.2.2.1) (x.2.2.2.1) (x.2.2.2.2.1) (x.2.2.2.2.2.1) (x.2.2.2.2.2.2)⟩
noncomputable def ji:aR:=⟨[],[.li .aK],some fun x=>QJ,fun x=>QI⟩
noncomputable def JN:aR:=⟨[],[.st .Config,.li .cx],some fun x=>QK,fun x=>CS⟩
noncomputable def JO:aR:=⟨[.st .eM],[.int .i64],some fun x=>QL x,fun x=>HM x⟩
noncomputable def JP:aR:=⟨[.int .i64],[.str],none,fun x=>zj x⟩
noncomputable def JQ:aR:=⟨[.str],[.int .u64],some fun x=>QN x,fun x=>QM x⟩
noncomputable def JR:aR:=⟨[.int .u64],[.str],some fun x=>CI x,fun x=>wC x⟩
noncomputable def JS:aR:=⟨[.int .u64,.str],[.int .i64],some fun x=>CJ (x.1) (x.2),fun x=>CK (x.1) (x.2)⟩
noncomputable def JT:aR:=⟨[.int .u64,.str],[.str],some fun x=>Hf (x.1) (x.2),fun x=>CQ (x.1) (x.2)⟩
noncomputable def JU:aR:=⟨[.st .eM],[.str],some fun x=>CR x,fun x=>zn x⟩
noncomputable def JV:aR:=⟨[.int .u64,.st .eM],[.str,.int .i64],some fun x=>Hp (x.1) (x.2),fun x=>zm (x.1) (x.2)⟩
noncomputable def JW:aR:=⟨[],[.bool],some fun x=>wG,fun x=>zp⟩
noncomputable def pN:aR:=⟨[.st .Home,.st .bu],[.bool],some fun x=>OQ (x.1) (x.2),fun x=>BN (x.1) (x.2)⟩
noncomputable def pL:aR:=⟨[.st .bu,.str],[.bool],some fun x=>OL (x.1) (x.2),fun x=>BM (x.1) (x.2)⟩
noncomputable def uP:List aR:=[HN,HO,HP,HQ,HR,HS,HT,HU,HV,HW,HX,HY,HZ,H0,H2,H3,H4,H5,H6,H7,H8,H9,Ia,Ib,Ic,Ie,Ig,Ih,Ii,Ij,Ik,Il,Im,Io,Ip,Iq,Ir,Is,It,Iu,Iv,Iw,Ix,Iy,Iz,CT,IA,IB,IC,ID,IE,IF,IG,IH,II,IJ,IK,IL,IM,IN,IP,IQ,IS,IT,CU,IU,IV,IW,IX,IY,IZ,I0,I1,I2,I3,I4,I5,I6,I7,I8,I9,Ja,Jb,Jc,Jd,Je,Jf,Jg,Jh,Ji,Jj,Jk,Jl,Jm,Jn,Jo,Jp,Jq,Jr,Js,Jt,Ju,Jv,Jw,Jx,Jy,Jz,JA,CV,JB,JC,JD,JE,JF,JG,JH,JI,JJ,JK,JL,JM,ji,JN,JO,JP,JQ,JR,JS,JT,JU,JV,JW,pN,pL]
def AC:List ia:=[⟨93,0,[.int .i64],[.str],false⟩,⟨94,1,[.str],[.str],false⟩,⟨193,2,[.int .i64],[.bool],true⟩,⟨119,3,[.st .cf],[.int .i64],true⟩,⟨95,4,[.st .cf],[.str],false⟩,⟨28,5,[.st .bu],[.str],false⟩,⟨152,7,[.str],[.int .u64,.int .i64,.int .i64],false⟩,⟨67,15,[.st .bu],[.int .i64],true⟩,⟨69,16,[.st .bu],[.int .i64],true⟩,⟨26,17,[.str],[.st .bu,.int .i64],false⟩,⟨192,18,[.int .i32],[.bool],true⟩,⟨118,19,[.str],[.bool],false⟩,⟨50,24,[.st .cf],[.int .i64],true⟩,⟨27,28,[.str],[.st .bu,.int .i64],false⟩,⟨96,29,[.int .i64],[.str],false⟩,⟨97,30,[.str],[.str],false⟩,⟨98,31,[.st .cf],[.str],false⟩,⟨29,32,[.st .bu],[.str],false⟩,⟨78,33,[.str],[.bool],false⟩,⟨54,34,[.str],[.str],false⟩,⟨200,35,[.int .i64],[.int .i64],true⟩,⟨199,36,[.int .u8],[.int .i64],false⟩,⟨128,37,[.str],[.str,.int .i64],false⟩,⟨259,38,[.li .str,.str],[.int .i64],true⟩,⟨237,39,[.li .str,.str],[.bool],true⟩,⟨206,40,[.li .str,.str],[.int .i64],true⟩,⟨280,41,[.li .str],[.int .i64],false⟩,⟨242,42,[.st .Attr],[.int .i64],false⟩,⟨257,43,[.st .aK],[.bool],true⟩,⟨292,44,[.st .Attr],[.bool],true⟩,⟨224,45,[.li .str],[.li .str],false⟩,⟨261,46,[.st .aK,.str],[.st .Attr,.bool],false⟩,⟨208,47,[.st .Attr,.st .cf],[.int .i64],false⟩,⟨316,48,[.li .str,.li .str],[.bool],false⟩,⟨315,49,[.st .Attr,.st .Attr],[.bool],false⟩,⟨311,50,[.st .cP,.st .Attr,.st .Attr],[.bool],false⟩,⟨293,51,[.st .aK,.st .Attr,.st .cP],[.int .i64],false⟩,⟨258,52,[.st .aK,.int .i64],[.int .i64],false⟩,⟨205,53,[.st .aK],[.int .i64],false⟩,⟨136,54,[.li .aK],[.int .i64],false⟩,⟨137,55,[.st .Home],[.mp (.str) (.st .aK)],true⟩,⟨138,56,[.st .bw],[.bool],true⟩,⟨139,57,[.st .bw,.mp (.str) (.st .aK)],[.int .i64],true⟩,⟨65,58,[.st .Home],[.int .i64],false⟩,⟨71,59,[.st .bu],[.st .bu],true⟩,⟨260,60,[.st .Home,.int .i64],[.st .bw,.bool],false⟩,⟨207,61,[.st .Home,.st .di],[.st .Attr,.bool],false⟩,⟨140,62,[.st .Home,.st .bu],[.int .i64],false⟩,⟨180,63,[.st .Home,.int .i64,.str],[.st .aK,.bool],false⟩,⟨262,64,[.li .cP],[.li .cP],false⟩,⟨209,65,[.st .aK,.str],[.st .Command,.bool],false⟩,⟨141,66,[.st .Home,.st .bu],[.int .i64],false⟩,⟨73,67,[.st .Home,.st .bu],[.int .i64],false⟩,⟨23,68,[.st .Home,.st .bu],[.int .i64],false⟩,⟨247,69,[.li .str,.str],[.bool],true⟩,⟨187,70,[.st .Attr],[.int .i64],false⟩,⟨190,71,[.st .aK,.str],[.int .i64],true⟩,⟨248,72,[.st .aK],[.bool],true⟩,⟨302,73,[.li .str,.li .str],[.bool],false⟩,⟨283,74,[.st .Attr,.st .Attr],[.bool],false⟩,⟨211,75,[.st .aK,.str],[.st .Attr,.bool],false⟩,⟨145,76,[.st .Attr,.st .cf],[.int .i64],false⟩,⟨303,77,[.st .cP,.st .Attr,.st .Attr],[.bool],false⟩,⟨284,78,[.st .aK,.st .Attr,.st .cP],[.int .i64],false⟩,⟨249,79,[.st .aK,.int .i64],[.int .i64],false⟩,⟨189,80,[.st .aK],[.int .i64],false⟩,⟨142,81,[.li .aK],[.int .i64],false⟩,⟨184,82,[.li .str,.str],[.int .i64],true⟩,⟨185,83,[.st .Home,.str],[.int .i64],false⟩,⟨210,84,[.st .Home,.st .bw],[.int .i64],false⟩,⟨143,85,[.st .Home,.int .i64],[.int .i64],false⟩,⟨74,86,[.st .Home],[.int .i64],false⟩,⟨75,87,[.st .bu],[.bool],true⟩,⟨175,88,[.st .Home,.int .i64],[.int .i64],false⟩,⟨114,89,[.st .Home,.int .i64,.str],[.st .aK,.bool],false⟩,⟨144,90,[.st .Home,.st .di],[.st .Attr,.bool],false⟩,⟨76,91,[.st .Home,.st .bu],[.int .i64],false⟩,⟨146,92,[.st .aK,.str],[.st .Command,.bool],true⟩,⟨77,93,[.st .Home,.st .bu],[.int .i64],false⟩,⟨24,94,[.st .Home,.st .bu],[.int .i64],false⟩,⟨295,95,[.str],[.int .u64],false⟩,⟨266,96,[.int .u64,.str],[.int .i64],false⟩,⟨217,97,[.int .u64,.str],[.str,.int .i64],false⟩,⟨218,98,[.st .eM],[.int .i64],false⟩,⟨159,99,[.int .u64,.str],[.st .eM,.int .i64],false⟩,⟨219,100,[.li .i64,.int .i64],[.int .i64],true⟩,⟨160,101,[.li .i64,.int .i64],[.bool],true⟩,⟨100,102,[.int .u64,.str,.int .i64,.li .i64],[.st .eM,.int .i64],false⟩,⟨296,103,[.st .eS],[.bool],true⟩,⟨268,104,[.li .eS],[.int .i64],true⟩,⟨220,105,[.st .Home,.li .cx,.int .i64],[.int .i64],false⟩,⟨222,106,[.st .cx],[.bool],true⟩,⟨161,107,[.st .Home,.li .cx],[.int .i64],false⟩,⟨223,108,[.li .eS],[.li .eS],false⟩,⟨162,109,[.li .cx,.str],[.st .cx,.bool],false⟩,⟨272,110,[.st .Home,.int .i64],[.str],false⟩,⟨297,111,[.st .Home,.st .di],[.bool],false⟩,⟨299,112,[.st .Home,.int .i64],[.li .di],false⟩,⟨273,113,[.st .Home,.st .bu],[.bool],false⟩,⟨163,114,[.st .Home,.st .cx,.int .i64,.st .bu],[.int .i64],false⟩,⟨103,115,[.st .Home,.li .cx,.str,.int .i64,.st .bu],[.int .i64],false⟩,⟨104,116,[.li .cI,.str],[.int .i64,.bool],true⟩,⟨105,117,[],[.st .fm],true⟩,⟨167,118,[.st .fm],[.int .i64],false⟩,⟨106,119,[.st .fm,.int .i64],[.st .fm,.bool],false⟩,⟨31,120,[.st .Config,.li .cx,.li .cI,.li .i64,.st .iu,.int .i64,.int .i64],[.str,.li .cI,.int .i64],false⟩,⟨147,121,[],[.li .aK],false⟩,⟨79,122,[],[.st .Config,.li .cx],false⟩,⟨148,123,[.st .eM],[.int .i64],false⟩,⟨215,124,[.int .i64],[.str],true⟩,⟨263,125,[.str],[.int .u64],false⟩,⟨264,126,[.int .u64],[.str],false⟩,⟨216,127,[.int .u64,.str],[.int .i64],false⟩,⟨149,128,[.int .u64,.str],[.str],false⟩,⟨150,129,[.st .eM],[.str],false⟩,⟨80,130,[.int .u64,.st .eM],[.str,.int .i64],false⟩,⟨25,131,[],[.bool],false⟩,⟨6,132,[.st .Home,.st .bu],[.bool],false⟩,⟨7,133,[.st .bu,.str],[.bool],false⟩]
def JX:List j1:=[⟨151,6,206,.Rd,[],[.int .i64],true⟩,⟨82,8,206,.Rd,[],[.int .i64],false⟩,⟨153,9,206,.Rd,[.int .i64],[.int .i64],false⟩,⟨83,10,206,.Rd,[.int .i64],[.str],false⟩,⟨154,11,206,.Rd,[.int .i64],[],true⟩,⟨84,12,206,.Rd,[],[.st .cf],false⟩,⟨155,13,206,.Rd,[],[.int .i64],true⟩,⟨85,14,206,.Rd,[],[.int .i64],true⟩,⟨156,20,212,.cp,[],[.int .i64],true⟩,⟨89,21,212,.cp,[],[.int .i64],false⟩,⟨157,22,212,.cp,[.int .i64],[.int .i64],false⟩,⟨90,23,212,.cp,[.int .i64],[.str],false⟩,⟨158,25,212,.cp,[.int .i64],[],true⟩,⟨91,26,212,.cp,[],[.st .cf],false⟩,⟨92,27,212,.cp,[],[.int .i64],true⟩]
@[reducible] noncomputable def bj:Program:=Go.Proofs.Tryz.prog
def C6:List lH:=[⟨99,132,.cI,32⟩,⟨245,25,.cf,32⟩]
def zx:List lH:=[⟨107,132,.cI,32⟩]
@[reducible] noncomputable def zaW(k j:Nat):Nat→List ab→ao→aC:=C4 bj (jH.all bj uI) uI (60,108,5) C6 zx (JX.take j) (AC.take k) 16
structure bE (G:a8) (k j:Nat):Prop where
 z:uL bj G 60 108 5
 r: ∀r∈C6,nM bj G r
 ii: ∀r∈zx,uD bj G r
 c:rp bj G uP (AC.take k)
 b:JY bj G uP (JX.take j)
theorem QO{α:Type}{l:List α}{k:Nat}{c:α}(h:l[k]? =some c){d:α}(hd:d∈l.take (k+1)):d∈l.take k∨d=c:=by
 rw[List.take_add_one,h,Option.toList_some,List.mem_append,List.mem_singleton]at hd
 exact hd
section
variable {G:a8}
theorem bE.i{k j:Nat}(h:bE G k j):fP bj G uP (zaW k j):=HC (Z:=(60,108,5)) Hv h.r h.ii h.z h.b h.c 16
theorem bE.cs{k j:Nat}(h:bE G k j)(c:ia)(m:aR)(aj:AC[k]? =some c)(hm:eU aR.d uP c.j=m)(ak:m.ps=c.ps)(ag:m.rs=c.rs)(an:bJ bj G c.f m)(hc:c.eP=true→m.pre=none):bE G (k+1) j:=
 ⟨h.z,h.r,h.ii,fun d hd=>(QO aj hd).elim (h.c d) (fun e=>e ▸ (by subst hm;exact⟨ak,ag,an,hc⟩)),h.b⟩
theorem bE.cC{k j:Nat}(h:bE G k j)(c:j1)(m:aR)(aj:JX[j]? =some c)(hm:eU aR.d uP c.j=m)(ak:m.ps= .st c.c::c.ps)(ag:m.rs= .st c.c::c.rs)(an:jk bj G c.f c.t m)(hc:c.eP=true→m.pre=none):bE G k (j+1):=
 ⟨h.z,h.r,h.ii,h.c,fun d hd=>(QO aj hd).elim (h.b d) (fun e=>e ▸ (by subst hm;exact⟨ak,ag,an,hc⟩))⟩
end
end Go.aL
