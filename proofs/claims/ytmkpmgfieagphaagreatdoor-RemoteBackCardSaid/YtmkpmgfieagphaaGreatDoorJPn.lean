/- Contracts: data. Conditions: none. -/
import Derived.Test.YtmkpmgfieagphaaGreatDoorJPm
import Derived.Test.YtmkpmgfieagphaaGreatDoorJTEp
import Derived.Test.YtmkpmgfieagphaaGreatDoorProg
open Go Go.aM Go.eQ
namespace Go.aM
def wi:List (Nat × bL):=[(2,.i64),(3,.i64),(4,.bool),(5,.u8),(6,.u8),(9,.str),(10,.str),(11,.str),(23,.dm),(25,.cD),(27,.m0),(29,.bK),(31,.ha),(33,.nO),(34,.i64),(51,.Home),(62,.m1),(65,.Config),(70,.Case),(78,.eg),(83,.m2),(130,.eN),(132,.b8),(142,.cu),(155,.nP),(159,.aK),(164,.jj),(168,.Attr),(189,.bB),(198,.Command),(206,.Rd),(212,.nQ),(236,.cM),(261,.eT),(340,.u8),(341,.u8),(349,.jN),(351,.j5),(353,.Change)]
noncomputable def Hn:aS:=⟨[.int .i64],[.str],some fun x=>oD x,fun x=>fP x⟩
noncomputable def Ho:aS:=⟨[.str],[.str],some fun x=>sk x,fun x=>hX x⟩
noncomputable def Hp:aS:=⟨[.int .i64],[.bool],none,fun x=>sl x⟩
noncomputable def Hq:aS:=⟨[.st .cD],[.int .i64],none,fun x=>iY x⟩
noncomputable def Hr:aS:=⟨[.st .cD],[.str],some fun x=>F2 x,fun x=>mT x⟩
noncomputable def Hs:aS:=⟨[.st .bK],[.str],some fun x=>vD x,fun x=>ky x⟩
noncomputable def Ht:aS:=⟨[.st .Rd],[.st .Rd,.int .i64],none,fun x=>nG x⟩
noncomputable def Hu:aS:=⟨[.str],[.int .u64,.int .i64,.int .i64],some fun x=>F0 x,fun x=>yt x⟩
noncomputable def Hv:aS:=⟨[.st .Rd],[.st .Rd,.int .i64],some fun x=>nI x,fun x=>gq x⟩
noncomputable def Hw:aS:=⟨[.st .Rd,.int .i64],[.st .Rd,.int .i64],some fun x=>F1 (x.1) (x.2),fun x=>yv (x.1) (x.2)⟩
noncomputable def Hy:aS:=⟨[.st .Rd,.int .i64],[.st .Rd,.str],some fun x=>sn (x.1) (x.2),fun x=>hG (x.1) (x.2)⟩
noncomputable def Hz:aS:=⟨[.st .Rd,.int .i64],[.st .Rd],none,fun x=>BE (x.1) (x.2)⟩
noncomputable def HA:aS:=⟨[.st .Rd],[.st .Rd,.st .cD],some fun x=>BF x,fun x=>tY x⟩
noncomputable def HB:aS:=⟨[.st .Rd],[.st .Rd,.int .i64],none,fun x=>FZ x⟩
noncomputable def HC:aS:=⟨[.st .Rd],[.st .Rd,.int .i64],none,fun x=>vM x⟩
noncomputable def HD:aS:=⟨[.st .bK],[.int .i64],none,fun x=>yw x⟩
noncomputable def HE:aS:=⟨[.st .bK],[.int .i64],none,fun x=>yx x⟩
noncomputable def HF:aS:=⟨[.str],[.st .bK,.int .i64],some fun x=>tM x,fun x=>hE x⟩
noncomputable def HG:aS:=⟨[.int .i32],[.bool],none,fun x=>G9 x⟩
noncomputable def HH:aS:=⟨[.str],[.bool],some fun x=>nJ x,fun x=>iq x⟩
noncomputable def HI:aS:=⟨[.st .cD],[.int .i64],none,fun x=>vL x⟩
noncomputable def HJ:aS:=⟨[.int .i64],[.str],some fun x=>pS x,fun x=>j0 x⟩
noncomputable def HK:aS:=⟨[.str],[.str],some fun x=>BC x,fun x=>qV x⟩
noncomputable def HL:aS:=⟨[.str],[.bool],some fun x=>pW x,fun x=>jG x⟩
noncomputable def HM:aS:=⟨[.str],[.str],some fun x=>GB x,fun x=>PY x⟩
noncomputable def HN:aS:=⟨[.int .i64],[.int .i64],none,fun x=>BS x⟩
noncomputable def HO:aS:=⟨[.int .u8],[.int .i64],some fun x=>yR x,fun x=>y8 x⟩
noncomputable def HP:aS:=⟨[.str],[.str,.int .i64],some fun x=>B9 x,fun x=>oL x⟩
noncomputable def HQ:aS:=⟨[.li .str,.str],[.int .i64],none,fun x=>q0 (x.1) (x.2)⟩
noncomputable def HR:aS:=⟨[.li .str,.str],[.bool],none,fun x=>jI (x.1) (x.2)⟩
noncomputable def HS:aS:=⟨[.li .str,.str],[.int .i64],none,fun x=>q3 (x.1) (x.2)⟩
noncomputable def HT:aS:=⟨[.li .str],[.int .i64],some fun x=>BK x,fun x=>vS x⟩
noncomputable def HU:aS:=⟨[.st .Attr],[.int .i64],some fun x=>vR x,fun x=>j2 x⟩
noncomputable def HV:aS:=⟨[.st .aK],[.bool],none,fun x=>oI x⟩
noncomputable def HW:aS:=⟨[.st .Attr],[.bool],none,fun x=>uc x⟩
noncomputable def Ct:aS:=⟨[.li .str],[.li .str],some fun x=>vQ x,fun x=>CH x⟩
noncomputable def HX:aS:=⟨[.st .aK,.str],[.st .Attr,.bool],some fun x=>yz (x.1) (x.2),fun x=>ss (x.1) (x.2)⟩
noncomputable def HY:aS:=⟨[.st .Attr,.st .cD],[.int .i64],some fun x=>yy (x.1) (x.2),fun x=>vT (x.1) (x.2)⟩
noncomputable def HZ:aS:=⟨[.li .str,.li .str],[.bool],some fun x=>F6 (x.1) (x.2),fun x=>yF (x.1) (x.2)⟩
noncomputable def H0:aS:=⟨[.st .Attr,.st .Attr],[.bool],some fun x=>F7 (x.1) (x.2),fun x=>BT (x.1) (x.2)⟩
noncomputable def H2:aS:=⟨[.st .cM,.st .Attr,.st .Attr],[.bool],some fun x=>BM (x.1) (x.2.1) (x.2.2),fun x=>BV (x.1) (x.2.1) (x.2.2)⟩
noncomputable def H3:aS:=⟨[.st .aK,.st .Attr,.st .cM],[.int .i64],some fun x=>BN (x.1) (x.2.1) (x.2.2),fun x=>pZ (x.1) (x.2.1) (x.2.2)⟩
noncomputable def H4:aS:=⟨[.st .aK,.int .i64],[.int .i64],some fun x=>BO (x.1) (x.2),fun x=>oH (x.1) (x.2)⟩
noncomputable def H5:aS:=⟨[.st .aK],[.int .i64],some fun x=>F9 x,fun x=>kQ x⟩
noncomputable def H6:aS:=⟨[.li .aK],[.int .i64],some fun x=>Ga x,fun x=>ma x⟩
noncomputable def H7:aS:=⟨[.st .Home],[.mp (.str) (.st .aK)],none,fun x=>kA x⟩
noncomputable def H8:aS:=⟨[.st .bB],[.bool],none,fun x=>vV x⟩
noncomputable def H9:aS:=⟨[.st .bB,.mp (.str) (.st .aK)],[.int .i64],none,fun x=>sw (x.1) (x.2)⟩
noncomputable def Ia:aS:=⟨[.st .Home],[.int .i64],some fun x=>yA x,fun x=>gv x⟩
noncomputable def Ib:aS:=⟨[.st .bK],[.st .bK],none,fun x=>Ha x⟩
noncomputable def Ic:aS:=⟨[.st .Home,.int .i64],[.st .bB,.bool],some fun x=>yB (x.1) (x.2),fun x=>mc (x.1) (x.2)⟩
noncomputable def Ie:aS:=⟨[.st .Home,.st .dm],[.st .Attr,.bool],some fun x=>BX (x.1) (x.2),fun x=>y9 (x.1) (x.2)⟩
noncomputable def Ig:aS:=⟨[.st .Home,.st .bK],[.int .i64],some fun x=>BY (x.1) (x.2),fun x=>PZ (x.1) (x.2)⟩
noncomputable def Ih:aS:=⟨[.st .Home,.int .i64,.str],[.st .aK,.bool],some fun x=>Gl (x.1) (x.2.1) (x.2.2),fun x=>sz (x.1) (x.2.1) (x.2.2)⟩
noncomputable def Cu:aS:=⟨[.li .cM],[.li .cM],some fun x=>BJ x,fun x=>P0 x⟩
noncomputable def Ii:aS:=⟨[.st .aK,.str],[.st .Command,.bool],some fun x=>Gm (x.1) (x.2),fun x=>vW (x.1) (x.2)⟩
noncomputable def Ij:aS:=⟨[.st .Home,.st .bK],[.int .i64],some fun x=>Gn (x.1) (x.2),fun x=>P1 (x.1) (x.2)⟩
noncomputable def Ik:aS:=⟨[.st .Home,.st .bK],[.int .i64],some fun x=>BZ (x.1) (x.2),fun x=>Hb (x.1) (x.2)⟩
noncomputable def Il:aS:=⟨[.st .Home,.st .bK],[.int .i64],some fun x=>Gp (x.1) (x.2),fun x=>ug (x.1) (x.2)⟩
noncomputable def Im:aS:=⟨[.li .str,.str],[.bool],none,fun x=>ub (x.1) (x.2)⟩
noncomputable def Io:aS:=⟨[.st .Attr],[.int .i64],some fun x=>ud x,fun x=>pY x⟩
noncomputable def Ip:aS:=⟨[.st .aK,.str],[.int .i64],none,fun x=>oG (x.1) (x.2)⟩
noncomputable def Iq:aS:=⟨[.st .aK],[.bool],none,fun x=>yJ x⟩
noncomputable def Ir:aS:=⟨[.li .str,.li .str],[.bool],some fun x=>B1 (x.1) (x.2),fun x=>yE (x.1) (x.2)⟩
noncomputable def Is:aS:=⟨[.st .Attr,.st .Attr],[.bool],some fun x=>Gq (x.1) (x.2),fun x=>yG (x.1) (x.2)⟩
noncomputable def It:aS:=⟨[.st .aK,.str],[.st .Attr,.bool],some fun x=>B2 (x.1) (x.2),fun x=>su (x.1) (x.2)⟩
noncomputable def Iu:aS:=⟨[.st .Attr,.st .cD],[.int .i64],some fun x=>yQ (x.1) (x.2),fun x=>q4 (x.1) (x.2)⟩
noncomputable def Iv:aS:=⟨[.st .cM,.st .Attr,.st .Attr],[.bool],some fun x=>B3 (x.1) (x.2.1) (x.2.2),fun x=>BU (x.1) (x.2.1) (x.2.2)⟩
noncomputable def Iw:aS:=⟨[.st .aK,.st .Attr,.st .cM],[.int .i64],some fun x=>B4 (x.1) (x.2.1) (x.2.2),fun x=>yH (x.1) (x.2.1) (x.2.2)⟩
noncomputable def Ix:aS:=⟨[.st .aK,.int .i64],[.int .i64],some fun x=>Gs (x.1) (x.2),fun x=>yI (x.1) (x.2)⟩
noncomputable def Iy:aS:=⟨[.st .aK],[.int .i64],some fun x=>Gt x,fun x=>yL x⟩
noncomputable def Iz:aS:=⟨[.li .aK],[.int .i64],some fun x=>Gu x,fun x=>yM x⟩
noncomputable def IA:aS:=⟨[.li .str,.str],[.int .i64],none,fun x=>q1 (x.1) (x.2)⟩
noncomputable def IB:aS:=⟨[.st .Home,.str],[.int .i64],some fun x=>B5 (x.1) (x.2),fun x=>mb (x.1) (x.2)⟩
noncomputable def IC:aS:=⟨[.st .Home,.st .bB],[.int .i64],some fun x=>Gv (x.1) (x.2),fun x=>q5 (x.1) (x.2)⟩
noncomputable def ID:aS:=⟨[.st .Home,.int .i64],[.int .i64],some fun x=>Gw (x.1) (x.2),fun x=>p3 (x.1) (x.2)⟩
noncomputable def IE:aS:=⟨[.st .Home],[.int .i64],some fun x=>B6 x,fun x=>p2 x⟩
noncomputable def IF:aS:=⟨[.st .bK],[.bool],none,fun x=>sD x⟩
noncomputable def IG:aS:=⟨[.st .Home,.int .i64],[.int .i64],some fun x=>P2 (x.1) (x.2),fun x=>p4 (x.1) (x.2)⟩
noncomputable def IH:aS:=⟨[.st .Home,.int .i64,.str],[.st .aK,.bool],some fun x=>B7 (x.1) (x.2.1) (x.2.2),fun x=>mV (x.1) (x.2.1) (x.2.2)⟩
noncomputable def II:aS:=⟨[.st .Home,.st .dm],[.st .Attr,.bool],some fun x=>Gx (x.1) (x.2),fun x=>y0 (x.1) (x.2)⟩
noncomputable def IJ:aS:=⟨[.st .Home,.st .bK],[.int .i64],some fun x=>Gy (x.1) (x.2),fun x=>we (x.1) (x.2)⟩
noncomputable def IK:aS:=⟨[.st .aK,.str],[.st .Command,.bool],none,fun x=>ue (x.1) (x.2)⟩
noncomputable def IL:aS:=⟨[.st .Home,.st .bK],[.int .i64],some fun x=>Gz (x.1) (x.2),fun x=>Cs (x.1) (x.2)⟩
noncomputable def IM:aS:=⟨[.st .Home,.st .bK],[.int .i64],some fun x=>B8 (x.1) (x.2),fun x=>tN (x.1) (x.2)⟩
noncomputable def IN:aS:=⟨[.str],[.int .u64],some fun x=>GC x,fun x=>P3 x⟩
noncomputable def IP:aS:=⟨[.int .u64,.str],[.int .i64],some fun x=>Ca (x.1) (x.2),fun x=>Hc (x.1) (x.2)⟩
noncomputable def IQ:aS:=⟨[.int .u64,.str],[.str,.int .i64],some fun x=>GD (x.1) (x.2),fun x=>p5 (x.1) (x.2)⟩
noncomputable def IS:aS:=⟨[.st .eN],[.int .i64],some fun x=>P5 x,fun x=>P4 x⟩
noncomputable def IT:aS:=⟨[.int .u64,.str],[.st .eN,.int .i64],some fun x=>GF (x.1) (x.2),fun x=>Hd (x.1) (x.2)⟩
noncomputable def IU:aS:=⟨[.li .i64,.int .i64],[.int .i64],none,fun x=>P6 (x.1) (x.2)⟩
noncomputable def IV:aS:=⟨[.li .i64,.int .i64],[.bool],none,fun x=>P7 (x.1) (x.2)⟩
noncomputable def IW:aS:=⟨[.int .u64,.str,.int .i64,.li .i64],[.st .eN,.int .i64],some fun x=>GG (x.1) (x.2.1) (x.2.2.1) (x.2.2.2),fun x=>lA (x.1) (x.2.1) (x.2.2.1) (x.2.2.2)⟩
noncomputable def IX:aS:=⟨[.st .eT],[.bool],none,fun x=>za x⟩
noncomputable def IY:aS:=⟨[.li .eT],[.int .i64],none,fun x=>He x⟩
noncomputable def IZ:aS:=⟨[.st .Home,.li .cu,.int .i64],[.int .i64],some fun x=>Cf (x.1) (x.2.1) (x.2.2),fun x=>Hf (x.1) (x.2.1) (x.2.2)⟩
noncomputable def I0:aS:=⟨[.st .cu],[.bool],none,fun x=>P8 x⟩
noncomputable def I1:aS:=⟨[.st .Home,.li .cu],[.int .i64],some fun x=>GJ (x.1) (x.2),fun x=>Hg (x.1) (x.2)⟩
noncomputable def Cv:aS:=⟨[.li .eT],[.li .eT],some fun x=>GL x,fun x=>P9 x⟩
noncomputable def I2:aS:=⟨[.li .cu,.str],[.st .cu,.bool],some fun x=>GK (x.1) (x.2),fun x=>Hh (x.1) (x.2)⟩
noncomputable def I3:aS:=⟨[.st .Home,.int .i64],[.str],some fun x=>q7 (x.1) (x.2),fun x=>oR (x.1) (x.2)⟩
noncomputable def I4:aS:=⟨[.st .Home,.st .dm],[.bool],some fun x=>Ch (x.1) (x.2),fun x=>CI (x.1) (x.2)⟩
noncomputable def I5:aS:=⟨[.st .Home,.int .i64],[.li .dm],some fun x=>GM (x.1) (x.2),fun x=>Hi (x.1) (x.2)⟩
noncomputable def I6:aS:=⟨[.st .Home,.st .bK],[.bool],some fun x=>v7 (x.1) (x.2),fun x=>CJ (x.1) (x.2)⟩
noncomputable def I7:aS:=⟨[.st .Home,.st .cu,.int .i64,.st .bK],[.int .i64],some fun x=>Ci (x.1) (x.2.1) (x.2.2.1) (x.2.2.2),fun x=>Qa (x.1) (x.2.1) (x.2.2.1) (x.2.2.2)⟩
noncomputable def I8:aS:=⟨[.st .Home,.li .cu,.str,.int .i64,.st .bK],[.int .i64],some fun x=>GN (x.1) (x.2.1) (x.2.2.1) (x.2.2.2.1) (x.2.2.2.2),fun x=>uh (x.1) (x.2.1) (x.2.2.1) (x.2.2.2.1) (x.2.2.2.2)⟩
noncomputable def I9:aS:=⟨[.li .b8,.str],[.int .i64,.bool],none,fun x=>j3 (x.1) (x.2)⟩
noncomputable def Ja:aS:=⟨[],[.st .eg],none,fun x=>Hj⟩
noncomputable def Jb:aS:=⟨[.st .eg],[.int .i64],some fun x=>GO x,fun x=>yT x⟩
noncomputable def Jc:aS:=⟨[.st .eg,.int .i64],[.st .eg,.bool],some fun x=>GQ (x.1) (x.2),fun x=>uf (x.1) (x.2)⟩
noncomputable def Jd:aS:=⟨[.st .Config,.li .cu,.li .b8,.li .i64,.st .ha,.int .i64,.int .i64],[.str,.li .b8,.int .i64],some fun x=>p6 (x.1) (x.2.1) (x.2.2.1) (x.2.2.2.1) (x.2.2.2.2.1) (x.2.2.2.2.2.1) (x.2.2.2.2.2.2),fun x=>j4 (x.1) (x.2.1) (x.2.2.1) (x.2.2.2.1) (x.2.2.2.2.1) (x.2.2.2.2.2.1) (x.2.2.2.2.2.2)⟩
noncomputable def ji:aS:=⟨[],[.li .aK],some fun x=>Qc,fun x=>Qb⟩
noncomputable def Je:aS:=⟨[],[.st .Config,.li .cu],some fun x=>Qd,fun x=>Cm⟩
noncomputable def Jf:aS:=⟨[.st .eN],[.int .i64],some fun x=>Qe x,fun x=>Hk x⟩
noncomputable def Jg:aS:=⟨[.int .i64],[.str],none,fun x=>yS x⟩
noncomputable def Jh:aS:=⟨[.str],[.int .u64],some fun x=>Qg x,fun x=>Qf x⟩
noncomputable def Ji:aS:=⟨[.int .u64],[.str],some fun x=>Cc x,fun x=>vZ x⟩
noncomputable def Jj:aS:=⟨[.int .u64,.str],[.int .i64],some fun x=>Cd (x.1) (x.2),fun x=>Ce (x.1) (x.2)⟩
noncomputable def Jk:aS:=⟨[.int .u64,.str],[.str],some fun x=>GI (x.1) (x.2),fun x=>Ck (x.1) (x.2)⟩
noncomputable def Jl:aS:=⟨[.st .eN],[.str],some fun x=>Cl x,fun x=>yW x⟩
noncomputable def Jm:aS:=⟨[.int .u64,.st .eN],[.str,.int .i64],some fun x=>GV (x.1) (x.2),fun x=>yV (x.1) (x.2)⟩
noncomputable def Jn:aS:=⟨[],[.bool],some fun x=>nD,fun x=>q8⟩
noncomputable def Jo:aS:=⟨[.st .Case],[.bool],some fun x=>Hl x,fun x=>uA x⟩
noncomputable def Jp:aS:=⟨[],[.st .eg],none,fun x=>Qh⟩
noncomputable def Jq:aS:=⟨[.li .b8,.str],[.st .eg],none,fun x=>zd (x.1) (x.2)⟩
noncomputable def Jr:aS:=⟨[.li .b8,.li .b8],[.bool],some fun x=>Hm (x.1) (x.2),fun x=>ze (x.1) (x.2)⟩
noncomputable def pN:aS:=⟨[.st .Home,.st .bK,.str],[.bool],some fun x=>Od (x.1) (x.2.1) (x.2.2),fun x=>Bq (x.1) (x.2.1) (x.2.2)⟩
noncomputable def Js:aS:=⟨[.st .Case,.st .ha],[.bool],some fun x=>ZV (x.1) (x.2),fun x=>ZU (x.1) (x.2)⟩
noncomputable def Jt:aS:=⟨[.st .Case,.str],[.bool],some fun x=>ZX (x.1) (x.2),fun x=>ZW (x.1) (x.2)⟩
noncomputable def wx:List aS:=[Hn,Ho,Hp,Hq,Hr,Hs,Ht,Hu,Hv,Hw,Hy,Hz,HA,HB,HC,HD,HE,HF,HG,HH,HI,HJ,HK,HL,HM,HN,HO,HP,HQ,HR,HS,HT,HU,HV,HW,Ct,HX,HY,HZ,H0,H2,H3,H4,H5,H6,H7,H8,H9,Ia,Ib,Ic,Ie,Ig,Ih,Cu,Ii,Ij,Ik,Il,Im,Io,Ip,Iq,Ir,Is,It,Iu,Iv,Iw,Ix,Iy,Iz,IA,IB,IC,ID,IE,IF,IG,IH,II,IJ,IK,IL,IM,IN,IP,IQ,IS,IT,IU,IV,IW,IX,IY,IZ,I0,I1,Cv,I2,I3,I4,I5,I6,I7,I8,I9,Ja,Jb,Jc,Jd,ji,Je,Jf,Jg,Jh,Ji,Jj,Jk,Jl,Jm,Jn,Jo,Jp,Jq,Jr,pN,Js,Jt]
def AC:List iu:=[⟨93,0,[.int .i64],[.str],false⟩,⟨94,1,[.str],[.str],false⟩,⟨193,2,[.int .i64],[.bool],true⟩,⟨119,3,[.st .cD],[.int .i64],true⟩,⟨95,4,[.st .cD],[.str],false⟩,⟨28,5,[.st .bK],[.str],false⟩,⟨152,7,[.str],[.int .u64,.int .i64,.int .i64],false⟩,⟨67,15,[.st .bK],[.int .i64],true⟩,⟨69,16,[.st .bK],[.int .i64],true⟩,⟨26,17,[.str],[.st .bK,.int .i64],false⟩,⟨192,18,[.int .i32],[.bool],true⟩,⟨118,19,[.str],[.bool],false⟩,⟨50,20,[.st .cD],[.int .i64],true⟩,⟨96,21,[.int .i64],[.str],false⟩,⟨97,22,[.str],[.str],false⟩,⟨78,23,[.str],[.bool],false⟩,⟨54,24,[.str],[.str],false⟩,⟨200,25,[.int .i64],[.int .i64],true⟩,⟨199,26,[.int .u8],[.int .i64],false⟩,⟨128,27,[.str],[.str,.int .i64],false⟩,⟨259,28,[.li .str,.str],[.int .i64],true⟩,⟨237,29,[.li .str,.str],[.bool],true⟩,⟨206,30,[.li .str,.str],[.int .i64],true⟩,⟨280,31,[.li .str],[.int .i64],false⟩,⟨242,32,[.st .Attr],[.int .i64],false⟩,⟨257,33,[.st .aK],[.bool],true⟩,⟨292,34,[.st .Attr],[.bool],true⟩,⟨224,35,[.li .str],[.li .str],false⟩,⟨261,36,[.st .aK,.str],[.st .Attr,.bool],false⟩,⟨208,37,[.st .Attr,.st .cD],[.int .i64],false⟩,⟨316,38,[.li .str,.li .str],[.bool],false⟩,⟨315,39,[.st .Attr,.st .Attr],[.bool],false⟩,⟨311,40,[.st .cM,.st .Attr,.st .Attr],[.bool],false⟩,⟨293,41,[.st .aK,.st .Attr,.st .cM],[.int .i64],false⟩,⟨258,42,[.st .aK,.int .i64],[.int .i64],false⟩,⟨205,43,[.st .aK],[.int .i64],false⟩,⟨136,44,[.li .aK],[.int .i64],false⟩,⟨137,45,[.st .Home],[.mp (.str) (.st .aK)],true⟩,⟨138,46,[.st .bB],[.bool],true⟩,⟨139,47,[.st .bB,.mp (.str) (.st .aK)],[.int .i64],true⟩,⟨65,48,[.st .Home],[.int .i64],false⟩,⟨71,49,[.st .bK],[.st .bK],true⟩,⟨260,50,[.st .Home,.int .i64],[.st .bB,.bool],false⟩,⟨207,51,[.st .Home,.st .dm],[.st .Attr,.bool],false⟩,⟨140,52,[.st .Home,.st .bK],[.int .i64],false⟩,⟨180,53,[.st .Home,.int .i64,.str],[.st .aK,.bool],false⟩,⟨262,54,[.li .cM],[.li .cM],false⟩,⟨209,55,[.st .aK,.str],[.st .Command,.bool],false⟩,⟨141,56,[.st .Home,.st .bK],[.int .i64],false⟩,⟨73,57,[.st .Home,.st .bK],[.int .i64],false⟩,⟨23,58,[.st .Home,.st .bK],[.int .i64],false⟩,⟨247,59,[.li .str,.str],[.bool],true⟩,⟨187,60,[.st .Attr],[.int .i64],false⟩,⟨190,61,[.st .aK,.str],[.int .i64],true⟩,⟨248,62,[.st .aK],[.bool],true⟩,⟨302,63,[.li .str,.li .str],[.bool],false⟩,⟨283,64,[.st .Attr,.st .Attr],[.bool],false⟩,⟨211,65,[.st .aK,.str],[.st .Attr,.bool],false⟩,⟨145,66,[.st .Attr,.st .cD],[.int .i64],false⟩,⟨303,67,[.st .cM,.st .Attr,.st .Attr],[.bool],false⟩,⟨284,68,[.st .aK,.st .Attr,.st .cM],[.int .i64],false⟩,⟨249,69,[.st .aK,.int .i64],[.int .i64],false⟩,⟨189,70,[.st .aK],[.int .i64],false⟩,⟨142,71,[.li .aK],[.int .i64],false⟩,⟨184,72,[.li .str,.str],[.int .i64],true⟩,⟨185,73,[.st .Home,.str],[.int .i64],false⟩,⟨210,74,[.st .Home,.st .bB],[.int .i64],false⟩,⟨143,75,[.st .Home,.int .i64],[.int .i64],false⟩,⟨74,76,[.st .Home],[.int .i64],false⟩,⟨75,77,[.st .bK],[.bool],true⟩,⟨175,78,[.st .Home,.int .i64],[.int .i64],false⟩,⟨114,79,[.st .Home,.int .i64,.str],[.st .aK,.bool],false⟩,⟨144,80,[.st .Home,.st .dm],[.st .Attr,.bool],false⟩,⟨76,81,[.st .Home,.st .bK],[.int .i64],false⟩,⟨146,82,[.st .aK,.str],[.st .Command,.bool],true⟩,⟨77,83,[.st .Home,.st .bK],[.int .i64],false⟩,⟨24,84,[.st .Home,.st .bK],[.int .i64],false⟩,⟨295,85,[.str],[.int .u64],false⟩,⟨266,86,[.int .u64,.str],[.int .i64],false⟩,⟨217,87,[.int .u64,.str],[.str,.int .i64],false⟩,⟨218,88,[.st .eN],[.int .i64],false⟩,⟨159,89,[.int .u64,.str],[.st .eN,.int .i64],false⟩,⟨219,90,[.li .i64,.int .i64],[.int .i64],true⟩,⟨160,91,[.li .i64,.int .i64],[.bool],true⟩,⟨100,92,[.int .u64,.str,.int .i64,.li .i64],[.st .eN,.int .i64],false⟩,⟨296,93,[.st .eT],[.bool],true⟩,⟨268,94,[.li .eT],[.int .i64],true⟩,⟨220,95,[.st .Home,.li .cu,.int .i64],[.int .i64],false⟩,⟨222,96,[.st .cu],[.bool],true⟩,⟨161,97,[.st .Home,.li .cu],[.int .i64],false⟩,⟨223,98,[.li .eT],[.li .eT],false⟩,⟨162,99,[.li .cu,.str],[.st .cu,.bool],false⟩,⟨272,100,[.st .Home,.int .i64],[.str],false⟩,⟨297,101,[.st .Home,.st .dm],[.bool],false⟩,⟨299,102,[.st .Home,.int .i64],[.li .dm],false⟩,⟨273,103,[.st .Home,.st .bK],[.bool],false⟩,⟨163,104,[.st .Home,.st .cu,.int .i64,.st .bK],[.int .i64],false⟩,⟨103,105,[.st .Home,.li .cu,.str,.int .i64,.st .bK],[.int .i64],false⟩,⟨104,106,[.li .b8,.str],[.int .i64,.bool],true⟩,⟨105,107,[],[.st .eg],true⟩,⟨167,108,[.st .eg],[.int .i64],false⟩,⟨106,109,[.st .eg,.int .i64],[.st .eg,.bool],false⟩,⟨31,110,[.st .Config,.li .cu,.li .b8,.li .i64,.st .ha,.int .i64,.int .i64],[.str,.li .b8,.int .i64],false⟩,⟨147,111,[],[.li .aK],false⟩,⟨79,112,[],[.st .Config,.li .cu],false⟩,⟨148,113,[.st .eN],[.int .i64],false⟩,⟨215,114,[.int .i64],[.str],true⟩,⟨263,115,[.str],[.int .u64],false⟩,⟨264,116,[.int .u64],[.str],false⟩,⟨216,117,[.int .u64,.str],[.int .i64],false⟩,⟨149,118,[.int .u64,.str],[.str],false⟩,⟨150,119,[.st .eN],[.str],false⟩,⟨80,120,[.int .u64,.st .eN],[.str,.int .i64],false⟩,⟨25,121,[],[.bool],false⟩,⟨30,122,[.st .Case],[.bool],false⟩,⟨112,123,[],[.st .eg],true⟩,⟨34,124,[.li .b8,.str],[.st .eg],true⟩,⟨33,125,[.li .b8,.li .b8],[.bool],false⟩,⟨9,126,[.st .Home,.st .bK,.str],[.bool],false⟩,⟨10,127,[.st .Case,.st .ha],[.bool],false⟩,⟨11,128,[.st .Case,.str],[.bool],false⟩]
def Ju:List j6:=[⟨151,6,206,.Rd,[],[.int .i64],true⟩,⟨82,8,206,.Rd,[],[.int .i64],false⟩,⟨153,9,206,.Rd,[.int .i64],[.int .i64],false⟩,⟨83,10,206,.Rd,[.int .i64],[.str],false⟩,⟨154,11,206,.Rd,[.int .i64],[],true⟩,⟨84,12,206,.Rd,[],[.st .cD],false⟩,⟨155,13,206,.Rd,[],[.int .i64],true⟩,⟨85,14,206,.Rd,[],[.int .i64],true⟩]
@[reducible] noncomputable def bj:Program:=Go.Proofs.Tryz.prog
def CG:List lD:=[⟨99,132,.b8,32⟩,⟨245,25,.cD,32⟩]
def y7:List lD:=[⟨107,132,.b8,32⟩]
@[reducible] noncomputable def ZY(k j:Nat):Nat→List ab→aq→aB:=CF bj (jK.all bj wi) wi (60,108,5) CG y7 (Ju.take j) (AC.take k) 16
structure bH (G:a8) (k j:Nat):Prop where
 z:uw bj G 60 108 5
 r: ∀r∈CG,nL bj G r
 ii: ∀r∈y7,uk bj G r
 c:ra bj G wx (AC.take k)
 b:Jv bj G wx (Ju.take j)
theorem Qi{α:Type}{l:List α}{k:Nat}{c:α}(h:l[k]? =some c){d:α}(hd:d∈l.take (k+1)):d∈l.take k∨d=c:=by
 rw[List.take_add_one,h,Option.toList_some,List.mem_append,List.mem_singleton]at hd
 exact hd
section
variable {G:a8}
theorem bH.i{k j:Nat}(h:bH G k j):fK bj G wx (ZY k j):=G8 (Z:=(60,108,5)) G2 h.r h.ii h.z h.b h.c 16
theorem bH.cs{k j:Nat}(h:bH G k j)(c:iu)(m:aS)(aj:AC[k]? =some c)(hm:e3 aS.d wx c.j=m)(ak:m.ps=c.ps)(af:m.rs=c.rs)(an:bG bj G c.f m)(hc:c.eJ=true→m.pre=none):bH G (k+1) j:=
 ⟨h.z,h.r,h.ii,fun d hd=>(Qi aj hd).elim (h.c d) (fun e=>e ▸ (by subst hm;exact⟨ak,af,an,hc⟩)),h.b⟩
theorem bH.cO{k j:Nat}(h:bH G k j)(c:j6)(m:aS)(aj:Ju[j]? =some c)(hm:e3 aS.d wx c.j=m)(ak:m.ps= .st c.c::c.ps)(af:m.rs= .st c.c::c.rs)(an:m3 bj G c.f c.t m)(hc:c.eJ=true→m.pre=none):bH G k (j+1):=
 ⟨h.z,h.r,h.ii,h.c,fun d hd=>(Qi aj hd).elim (h.b d) (fun e=>e ▸ (by subst hm;exact⟨ak,af,an,hc⟩))⟩
end
end Go.aM
