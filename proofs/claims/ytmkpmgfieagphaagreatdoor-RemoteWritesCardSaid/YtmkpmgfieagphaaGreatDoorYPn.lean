/- Contracts: data. Conditions: none. -/
import Derived.Test.YtmkpmgfieagphaaGreatDoorYPm
import Derived.Test.YtmkpmgfieagphaaGreatDoorYTEq
import Derived.Test.YtmkpmgfieagphaaGreatDoorProg
open Go Go.aO Go.eK
namespace Go.aO
def sf:List (Nat × bJ):=[(2,.i64),(3,.i64),(4,.bool),(5,.u8),(6,.u8),(9,.str),(10,.str),(11,.str),(23,.cB),(25,.az),(27,.mH),(29,.aT),(31,.iu),(33,.nu),(34,.i64),(51,.Home),(62,.mI),(65,.Config),(70,.Case),(78,.fp),(83,.dF),(130,.eO),(132,.cS),(142,.cC),(155,.cm),(159,.aA),(164,.ck),(168,.Attr),(189,.bx),(198,.Command),(206,.Rd),(212,.nv),(236,.bV),(261,.eZ),(340,.u8),(341,.u8),(349,.jH),(351,.jX),(353,.Change)]
noncomputable def HO:aV:=⟨[.int .i64],[.str],some fun x=>ob x,fun x=>gf x⟩
noncomputable def HP:aV:=⟨[.str],[.str],some fun x=>rT x,fun x=>im x⟩
noncomputable def HQ:aV:=⟨[.int .i64],[.bool],none,fun x=>px x⟩
noncomputable def HR:aV:=⟨[.st .az],[.int .i64],none,fun x=>lb x⟩
noncomputable def HS:aV:=⟨[.st .az],[.str],some fun x=>Gl x,fun x=>pC x⟩
noncomputable def HT:aV:=⟨[.st .aT],[.str],some fun x=>Gm x,fun x=>yq x⟩
noncomputable def HU:aV:=⟨[.st .Rd],[.st .Rd,.int .i64],none,fun x=>nh x⟩
noncomputable def HV:aV:=⟨[.str],[.int .u64,.int .i64,.int .i64],some fun x=>Gh x,fun x=>ym x⟩
noncomputable def HW:aV:=⟨[.st .Rd],[.st .Rd,.int .i64],some fun x=>ni x,fun x=>gV x⟩
noncomputable def HX:aV:=⟨[.st .Rd,.int .i64],[.st .Rd,.int .i64],some fun x=>Gi (x.1) (x.2),fun x=>yo (x.1) (x.2)⟩
noncomputable def HY:aV:=⟨[.st .Rd,.int .i64],[.st .Rd,.str],some fun x=>rV (x.1) (x.2),fun x=>iJ (x.1) (x.2)⟩
noncomputable def HZ:aV:=⟨[.st .Rd,.int .i64],[.st .Rd],none,fun x=>BF (x.1) (x.2)⟩
noncomputable def H0:aV:=⟨[.st .Rd],[.st .Rd,.st .az],some fun x=>BG x,fun x=>vt x⟩
noncomputable def H2:aV:=⟨[.st .Rd],[.st .Rd,.int .i64],none,fun x=>Qt x⟩
noncomputable def H3:aV:=⟨[.st .Rd],[.st .Rd,.int .i64],none,fun x=>CM x⟩
noncomputable def H4:aV:=⟨[.st .aT],[.int .i64],none,fun x=>yI x⟩
noncomputable def H5:aV:=⟨[.st .aT],[.int .i64],none,fun x=>yJ x⟩
noncomputable def H6:aV:=⟨[.str],[.st .aT,.int .i64],some fun x=>BH x,fun x=>Hz x⟩
noncomputable def H7:aV:=⟨[.int .i32],[.bool],none,fun x=>HA x⟩
noncomputable def H8:aV:=⟨[.str],[.bool],some fun x=>nj x,fun x=>iq x⟩
noncomputable def H9:aV:=⟨[.st .az],[.int .i64],none,fun x=>vr x⟩
noncomputable def Ia:aV:=⟨[.int .i64],[.str],some fun x=>pw x,fun x=>jT x⟩
noncomputable def Ib:aV:=⟨[.str],[.str],some fun x=>BD x,fun x=>qx x⟩
noncomputable def Ic:aV:=⟨[.str],[.bool],some fun x=>pB x,fun x=>jU x⟩
noncomputable def Ie:aV:=⟨[.str],[.str],some fun x=>GX x,fun x=>Qu x⟩
noncomputable def Ig:aV:=⟨[.int .i64],[.int .i64],none,fun x=>ld x⟩
noncomputable def Ih:aV:=⟨[.int .u8],[.int .i64],some fun x=>yL x,fun x=>y9 x⟩
noncomputable def Ii:aV:=⟨[.str],[.str,.int .i64],some fun x=>Ci x,fun x=>om x⟩
noncomputable def Ij:aV:=⟨[.li .str,.str],[.int .i64],none,fun x=>lV (x.1) (x.2)⟩
noncomputable def Ik:aV:=⟨[.li .str,.str],[.bool],none,fun x=>iK (x.1) (x.2)⟩
noncomputable def Il:aV:=⟨[.li .str,.str],[.int .i64],none,fun x=>pE (x.1) (x.2)⟩
noncomputable def Im:aV:=⟨[.li .str],[.int .i64],some fun x=>BM x,fun x=>vG x⟩
noncomputable def Io:aV:=⟨[.st .Attr],[.int .i64],some fun x=>rX x,fun x=>gH x⟩
noncomputable def Ip:aV:=⟨[.st .aA],[.bool],none,fun x=>oe x⟩
noncomputable def Iq:aV:=⟨[.st .Attr],[.bool],none,fun x=>tE x⟩
noncomputable def Cz:aV:=⟨[.li .str],[.li .str],some fun x=>vF x,fun x=>CN x⟩
noncomputable def Ir:aV:=⟨[.st .aA,.str],[.st .Attr,.bool],some fun x=>yr (x.1) (x.2),fun x=>rZ (x.1) (x.2)⟩
noncomputable def Is:aV:=⟨[.st .Attr,.st .az],[.int .i64],some fun x=>tA (x.1) (x.2),fun x=>hD (x.1) (x.2)⟩
noncomputable def It:aV:=⟨[.li .str,.li .str],[.bool],some fun x=>Gp (x.1) (x.2),fun x=>tD (x.1) (x.2)⟩
noncomputable def Iu:aV:=⟨[.st .Attr,.st .Attr],[.bool],some fun x=>Gq (x.1) (x.2),fun x=>vH (x.1) (x.2)⟩
noncomputable def Iv:aV:=⟨[.st .bV,.st .Attr,.st .Attr],[.bool],some fun x=>BO (x.1) (x.2.1) (x.2.2),fun x=>vI (x.1) (x.2.1) (x.2.2)⟩
noncomputable def Iw:aV:=⟨[.st .aA,.st .Attr,.st .bV],[.int .i64],some fun x=>BP (x.1) (x.2.1) (x.2.2),fun x=>kD (x.1) (x.2.1) (x.2.2)⟩
noncomputable def Ix:aV:=⟨[.st .aA,.int .i64],[.int .i64],some fun x=>BQ (x.1) (x.2),fun x=>qD (x.1) (x.2)⟩
noncomputable def Iy:aV:=⟨[.st .aA],[.int .i64],some fun x=>BR x,fun x=>jc x⟩
noncomputable def Iz:aV:=⟨[.li .aA],[.int .i64],some fun x=>Gs x,fun x=>nn x⟩
noncomputable def IA:aV:=⟨[.st .Home],[.mp (.str) (.st .aA)],none,fun x=>kn x⟩
noncomputable def IB:aV:=⟨[.st .bx],[.bool],none,fun x=>vK x⟩
noncomputable def IC:aV:=⟨[.st .bx,.mp (.str) (.st .aA)],[.int .i64],none,fun x=>r0 (x.1) (x.2)⟩
noncomputable def ID:aV:=⟨[.st .Home],[.int .i64],some fun x=>yt x,fun x=>fj x⟩
noncomputable def IE:aV:=⟨[.st .aT],[.st .aT],none,fun x=>lX x⟩
noncomputable def IF:aV:=⟨[.st .Home,.int .i64],[.st .bx,.bool],some fun x=>yu (x.1) (x.2),fun x=>lW (x.1) (x.2)⟩
noncomputable def IG:aV:=⟨[.st .Home,.st .cB],[.st .Attr,.bool],some fun x=>B0 (x.1) (x.2),fun x=>tJ (x.1) (x.2)⟩
noncomputable def IH:aV:=⟨[.st .Home,.st .aT],[.int .i64],some fun x=>B1 (x.1) (x.2),fun x=>Cf (x.1) (x.2)⟩
noncomputable def II:aV:=⟨[.st .Home,.int .i64,.str],[.st .aA,.bool],some fun x=>B2 (x.1) (x.2.1) (x.2.2),fun x=>lP (x.1) (x.2.1) (x.2.2)⟩
noncomputable def CA:aV:=⟨[.li .bV],[.li .bV],some fun x=>BL x,fun x=>Qv x⟩
noncomputable def IJ:aV:=⟨[.st .aA,.str],[.st .Command,.bool],some fun x=>B3 (x.1) (x.2),fun x=>ko (x.1) (x.2)⟩
noncomputable def IK:aV:=⟨[.st .Home,.st .aT],[.int .i64],some fun x=>GB (x.1) (x.2),fun x=>Ch (x.1) (x.2)⟩
noncomputable def IL:aV:=⟨[.st .Home,.st .aT],[.int .i64],some fun x=>B4 (x.1) (x.2),fun x=>yK (x.1) (x.2)⟩
noncomputable def IM:aV:=⟨[.st .Home,.st .aT],[.int .i64],some fun x=>B5 (x.1) (x.2),fun x=>lg (x.1) (x.2)⟩
noncomputable def IN:aV:=⟨[.li .str,.str],[.bool],none,fun x=>tC (x.1) (x.2)⟩
noncomputable def IP:aV:=⟨[.st .Attr],[.int .i64],some fun x=>qH x,fun x=>mz x⟩
noncomputable def IQ:aV:=⟨[.st .aA,.str],[.int .i64],none,fun x=>jb (x.1) (x.2)⟩
noncomputable def IS:aV:=⟨[.st .aA],[.bool],none,fun x=>yC x⟩
noncomputable def IT:aV:=⟨[.li .str,.li .str],[.bool],some fun x=>B6 (x.1) (x.2),fun x=>yy (x.1) (x.2)⟩
noncomputable def IU:aV:=⟨[.st .Attr,.st .Attr],[.bool],some fun x=>GC (x.1) (x.2),fun x=>yz (x.1) (x.2)⟩
noncomputable def IV:aV:=⟨[.st .aA,.str],[.st .Attr,.bool],some fun x=>B7 (x.1) (x.2),fun x=>tF (x.1) (x.2)⟩
noncomputable def IW:aV:=⟨[.st .Attr,.st .az],[.int .i64],some fun x=>tI (x.1) (x.2),fun x=>mA (x.1) (x.2)⟩
noncomputable def IX:aV:=⟨[.st .bV,.st .Attr,.st .Attr],[.bool],some fun x=>B8 (x.1) (x.2.1) (x.2.2),fun x=>BU (x.1) (x.2.1) (x.2.2)⟩
noncomputable def IY:aV:=⟨[.st .aA,.st .Attr,.st .bV],[.int .i64],some fun x=>B9 (x.1) (x.2.1) (x.2.2),fun x=>yA (x.1) (x.2.1) (x.2.2)⟩
noncomputable def IZ:aV:=⟨[.st .aA,.int .i64],[.int .i64],some fun x=>GD (x.1) (x.2),fun x=>yB (x.1) (x.2)⟩
noncomputable def I0:aV:=⟨[.st .aA],[.int .i64],some fun x=>Ca x,fun x=>qE x⟩
noncomputable def I1:aV:=⟨[.li .aA],[.int .i64],some fun x=>GF x,fun x=>yD x⟩
noncomputable def I2:aV:=⟨[.li .str,.str],[.int .i64],none,fun x=>qC (x.1) (x.2)⟩
noncomputable def I3:aV:=⟨[.st .Home,.str],[.int .i64],some fun x=>Cb (x.1) (x.2),fun x=>lf (x.1) (x.2)⟩
noncomputable def I4:aV:=⟨[.st .Home,.st .bx],[.int .i64],some fun x=>GG (x.1) (x.2),fun x=>qG (x.1) (x.2)⟩
noncomputable def I5:aV:=⟨[.st .Home,.int .i64],[.int .i64],some fun x=>GH (x.1) (x.2),fun x=>pG (x.1) (x.2)⟩
noncomputable def I6:aV:=⟨[.st .Home],[.int .i64],some fun x=>Cc x,fun x=>pF x⟩
noncomputable def I7:aV:=⟨[.st .aT],[.bool],none,fun x=>vL x⟩
noncomputable def I8:aV:=⟨[.st .Home,.int .i64],[.int .i64],some fun x=>Qw (x.1) (x.2),fun x=>pH (x.1) (x.2)⟩
noncomputable def I9:aV:=⟨[.st .Home,.int .i64,.str],[.st .aA,.bool],some fun x=>yG (x.1) (x.2.1) (x.2.2),fun x=>mw (x.1) (x.2.1) (x.2.2)⟩
noncomputable def Ja:aV:=⟨[.st .Home,.st .cB],[.st .Attr,.bool],some fun x=>GN (x.1) (x.2),fun x=>yH (x.1) (x.2)⟩
noncomputable def Jb:aV:=⟨[.st .Home,.st .aT],[.int .i64],some fun x=>GO (x.1) (x.2),fun x=>Ce (x.1) (x.2)⟩
noncomputable def Jc:aV:=⟨[.st .aA,.str],[.st .Command,.bool],none,fun x=>km (x.1) (x.2)⟩
noncomputable def Jd:aV:=⟨[.st .Home,.st .aT],[.int .i64],some fun x=>GQ (x.1) (x.2),fun x=>Cg (x.1) (x.2)⟩
noncomputable def Je:aV:=⟨[.st .Home,.st .aT],[.int .i64],some fun x=>Cd (x.1) (x.2),fun x=>vM (x.1) (x.2)⟩
noncomputable def Jf:aV:=⟨[.str],[.int .u64],some fun x=>GY x,fun x=>Qx x⟩
noncomputable def Jg:aV:=⟨[.int .u64,.str],[.int .i64],some fun x=>Cj (x.1) (x.2),fun x=>HB (x.1) (x.2)⟩
noncomputable def Jh:aV:=⟨[.int .u64,.str],[.str,.int .i64],some fun x=>GZ (x.1) (x.2),fun x=>pI (x.1) (x.2)⟩
noncomputable def Ji:aV:=⟨[.st .eO],[.int .i64],some fun x=>Qz x,fun x=>Qy x⟩
noncomputable def Jj:aV:=⟨[.int .u64,.str],[.st .eO,.int .i64],some fun x=>G0 (x.1) (x.2),fun x=>HC (x.1) (x.2)⟩
noncomputable def Jk:aV:=⟨[.li .i64,.int .i64],[.int .i64],none,fun x=>QA (x.1) (x.2)⟩
noncomputable def Jl:aV:=⟨[.li .i64,.int .i64],[.bool],none,fun x=>QB (x.1) (x.2)⟩
noncomputable def Jm:aV:=⟨[.int .u64,.str,.int .i64,.li .i64],[.st .eO,.int .i64],some fun x=>G1 (x.1) (x.2.1) (x.2.2.1) (x.2.2.2),fun x=>lh (x.1) (x.2.1) (x.2.2.1) (x.2.2.2)⟩
noncomputable def Jn:aV:=⟨[.st .eZ],[.bool],none,fun x=>za x⟩
noncomputable def Jo:aV:=⟨[.li .eZ],[.int .i64],none,fun x=>HD x⟩
noncomputable def Jp:aV:=⟨[.st .Home,.li .cC,.int .i64],[.int .i64],some fun x=>Co (x.1) (x.2.1) (x.2.2),fun x=>HE (x.1) (x.2.1) (x.2.2)⟩
noncomputable def Jq:aV:=⟨[.st .cC],[.bool],none,fun x=>QC x⟩
noncomputable def Jr:aV:=⟨[.st .Home,.li .cC],[.int .i64],some fun x=>G4 (x.1) (x.2),fun x=>HF (x.1) (x.2)⟩
noncomputable def CB:aV:=⟨[.li .eZ],[.li .eZ],some fun x=>G6 x,fun x=>QD x⟩
noncomputable def Js:aV:=⟨[.li .cC,.str],[.st .cC,.bool],some fun x=>G5 (x.1) (x.2),fun x=>HG (x.1) (x.2)⟩
noncomputable def Jt:aV:=⟨[.st .Home,.int .i64],[.str],some fun x=>qK (x.1) (x.2),fun x=>oy (x.1) (x.2)⟩
noncomputable def Ju:aV:=⟨[.st .Home,.st .cB],[.bool],some fun x=>Cq (x.1) (x.2),fun x=>CO (x.1) (x.2)⟩
noncomputable def Jv:aV:=⟨[.st .Home,.int .i64],[.li .cB],some fun x=>G7 (x.1) (x.2),fun x=>HH (x.1) (x.2)⟩
noncomputable def Jw:aV:=⟨[.st .Home,.st .aT],[.bool],some fun x=>vQ (x.1) (x.2),fun x=>CP (x.1) (x.2)⟩
noncomputable def Jx:aV:=⟨[.st .Home,.st .cC,.int .i64,.st .aT],[.int .i64],some fun x=>Cr (x.1) (x.2.1) (x.2.2.1) (x.2.2.2),fun x=>QE (x.1) (x.2.1) (x.2.2.1) (x.2.2.2)⟩
noncomputable def Jy:aV:=⟨[.st .Home,.li .cC,.str,.int .i64,.st .aT],[.int .i64],some fun x=>G8 (x.1) (x.2.1) (x.2.2.1) (x.2.2.2.1) (x.2.2.2.2),fun x=>tN (x.1) (x.2.1) (x.2.2.1) (x.2.2.2.1) (x.2.2.2.2)⟩
noncomputable def Jz:aV:=⟨[.li .cS,.str],[.int .i64,.bool],none,fun x=>jV (x.1) (x.2)⟩
noncomputable def JA:aV:=⟨[],[.st .fp],none,fun x=>HI⟩
noncomputable def JB:aV:=⟨[.st .fp],[.int .i64],some fun x=>G9 x,fun x=>yN x⟩
noncomputable def JC:aV:=⟨[.st .fp,.int .i64],[.st .fp,.bool],some fun x=>Ha (x.1) (x.2),fun x=>tM (x.1) (x.2)⟩
noncomputable def JD:aV:=⟨[.st .Config,.li .cC,.li .cS,.li .i64,.st .iu,.int .i64,.int .i64],[.str,.li .cS,.int .i64],some fun x=>vR (x.1) (x.2.1) (x.2.2.1) (x.2.2.2.1) (x.2.2.2.2.1) (x.2.2.2.2.2.1) (x.2.2.2.2.2.2),fun x=>pJ (x.1) (x.2.1) (x.2.2.1) (x.2.2.2.1) (x.2.2.2.2.1) (x.2.2.2.2.2.1) (x.2.2.2.2.2.2)⟩
noncomputable def jj:aV:=⟨[],[.li .aA],some fun x=>QG,fun x=>QF⟩
noncomputable def JE:aV:=⟨[],[.st .Config,.li .cC],some fun x=>QH,fun x=>Cw⟩
noncomputable def JF:aV:=⟨[.st .eO],[.int .i64],some fun x=>QI x,fun x=>HJ x⟩
noncomputable def JG:aV:=⟨[.int .i64],[.str],none,fun x=>yM x⟩
noncomputable def JH:aV:=⟨[.str],[.int .u64],some fun x=>QK x,fun x=>QJ x⟩
noncomputable def JI:aV:=⟨[.int .u64],[.str],some fun x=>Cl x,fun x=>vP x⟩
noncomputable def JJ:aV:=⟨[.int .u64,.str],[.int .i64],some fun x=>Cm (x.1) (x.2),fun x=>Cn (x.1) (x.2)⟩
noncomputable def JK:aV:=⟨[.int .u64,.str],[.str],some fun x=>G3 (x.1) (x.2),fun x=>Ct (x.1) (x.2)⟩
noncomputable def JL:aV:=⟨[.st .eO],[.str],some fun x=>Cu x,fun x=>yQ x⟩
noncomputable def JM:aV:=⟨[.int .u64,.st .eO],[.str,.int .i64],some fun x=>Hd (x.1) (x.2),fun x=>yP (x.1) (x.2)⟩
noncomputable def JN:aV:=⟨[],[.bool],some fun x=>yS,fun x=>Cv⟩
noncomputable def JO:aV:=⟨[.st .Case],[.bool],some fun x=>Hg x,fun x=>Bw x⟩
noncomputable def JP:aV:=⟨[.li .cm,.li .cm],[.bool],some fun x=>FO (x.1) (x.2),fun x=>x7 (x.1) (x.2)⟩
noncomputable def JQ:aV:=⟨[.li .ck,.st .cB],[.int .i64],none,fun x=>sc (x.1) (x.2)⟩
noncomputable def JR:aV:=⟨[.li .ck,.st .cB],[.st .ck,.bool],some fun x=>Hn (x.1) (x.2),fun x=>yV (x.1) (x.2)⟩
noncomputable def JS:aV:=⟨[.int .i64,.int .i64,.int .i64],[.int .i64],none,fun x=>yT (x.1) (x.2.1) (x.2.2)⟩
noncomputable def JT:aV:=⟨[.st .Attr],[.st .az],some fun x=>QL x,fun x=>yX x⟩
noncomputable def JU:aV:=⟨[.st .Command,.st .az],[.int .i64],some fun x=>QM (x.1) (x.2),fun x=>sa (x.1) (x.2)⟩
noncomputable def JV:aV:=⟨[.bool],[.int .i64],none,fun x=>QN x⟩
noncomputable def JW:aV:=⟨[.int .i64,.int .i64],[.int .i64],none,fun x=>r4 (x.1) (x.2)⟩
noncomputable def JX:aV:=⟨[.st .Attr,.st .az],[.st .az],some fun x=>FP (x.1) (x.2),fun x=>gX (x.1) (x.2)⟩
noncomputable def JY:aV:=⟨[.st .bV,.st .Attr,.st .az,.st .az],[.st .az],some fun x=>Bq (x.1) (x.2.1) (x.2.2.1) (x.2.2.2),fun x=>nq (x.1) (x.2.1) (x.2.2.1) (x.2.2.2)⟩
noncomputable def JZ:aV:=⟨[.st .aA,.str,.st .az,.li .az],[.li .az,.int .i64],some fun x=>FQ (x.1) (x.2.1) (x.2.2.1) (x.2.2.2),fun x=>nf (x.1) (x.2.1) (x.2.2.1) (x.2.2.2)⟩
noncomputable def J0:aV:=⟨[.st .Home,.li .ck,.st .aT,.st .dF],[.li .cm],some fun x=>FY (x.1) (x.2.1) (x.2.2.1) (x.2.2.2),fun x=>yZ (x.1) (x.2.1) (x.2.2.1) (x.2.2.2)⟩
noncomputable def J1:aV:=⟨[.st .Home,.li .ck,.st .aT,.st .dF],[.li .cm],some fun x=>F1 (x.1) (x.2.1) (x.2.2.1) (x.2.2.2),fun x=>y0 (x.1) (x.2.1) (x.2.2.1) (x.2.2.2)⟩
noncomputable def J2:aV:=⟨[.li .ck,.st .cB],[.int .i64],none,fun x=>sb (x.1) (x.2)⟩
noncomputable def J3:aV:=⟨[.li .ck,.st .cB],[.st .ck,.bool],some fun x=>Ho (x.1) (x.2),fun x=>yW (x.1) (x.2)⟩
noncomputable def J4:aV:=⟨[.st .Attr,.st .az],[.st .az],some fun x=>Bs (x.1) (x.2),fun x=>tO (x.1) (x.2)⟩
noncomputable def J5:aV:=⟨[.st .Attr],[.st .az],some fun x=>QO x,fun x=>yY x⟩
noncomputable def J6:aV:=⟨[.st .bV,.st .Attr,.st .az,.st .az],[.st .az],some fun x=>Br (x.1) (x.2.1) (x.2.2.1) (x.2.2.2),fun x=>r5 (x.1) (x.2.1) (x.2.2.1) (x.2.2.2)⟩
noncomputable def J7:aV:=⟨[.st .aA,.str,.st .az,.li .az],[.li .az,.int .i64],some fun x=>FR (x.1) (x.2.1) (x.2.2.1) (x.2.2.2),fun x=>vl (x.1) (x.2.1) (x.2.2.1) (x.2.2.2)⟩
noncomputable def J8:aV:=⟨[.st .Home,.li .ck,.st .aT,.st .dF],[.li .cm],some fun x=>F2 (x.1) (x.2.1) (x.2.2.1) (x.2.2.2),fun x=>sd (x.1) (x.2.1) (x.2.2.1) (x.2.2.2)⟩
noncomputable def pr:aV:=⟨[.st .Home,.li .ck,.st .Case],[.bool],some fun x=>O6 (x.1) (x.2.1) (x.2.2),fun x=>Bv (x.1) (x.2.1) (x.2.2)⟩
noncomputable def ub:List aV:=[HO,HP,HQ,HR,HS,HT,HU,HV,HW,HX,HY,HZ,H0,H2,H3,H4,H5,H6,H7,H8,H9,Ia,Ib,Ic,Ie,Ig,Ih,Ii,Ij,Ik,Il,Im,Io,Ip,Iq,Cz,Ir,Is,It,Iu,Iv,Iw,Ix,Iy,Iz,IA,IB,IC,ID,IE,IF,IG,IH,II,CA,IJ,IK,IL,IM,IN,IP,IQ,IS,IT,IU,IV,IW,IX,IY,IZ,I0,I1,I2,I3,I4,I5,I6,I7,I8,I9,Ja,Jb,Jc,Jd,Je,Jf,Jg,Jh,Ji,Jj,Jk,Jl,Jm,Jn,Jo,Jp,Jq,Jr,CB,Js,Jt,Ju,Jv,Jw,Jx,Jy,Jz,JA,JB,JC,JD,jj,JE,JF,JG,JH,JI,JJ,JK,JL,JM,JN,JO,JP,JQ,JR,JS,JT,JU,JV,JW,JX,JY,JZ,J0,J1,J2,J3,J4,J5,J6,J7,J8,pr]
def AC:List iy:=[⟨93,0,[.int .i64],[.str],false⟩,⟨94,1,[.str],[.str],false⟩,⟨193,2,[.int .i64],[.bool],true⟩,⟨119,3,[.st .az],[.int .i64],true⟩,⟨95,4,[.st .az],[.str],false⟩,⟨28,5,[.st .aT],[.str],false⟩,⟨152,7,[.str],[.int .u64,.int .i64,.int .i64],false⟩,⟨67,15,[.st .aT],[.int .i64],true⟩,⟨69,16,[.st .aT],[.int .i64],true⟩,⟨26,17,[.str],[.st .aT,.int .i64],false⟩,⟨192,18,[.int .i32],[.bool],true⟩,⟨118,19,[.str],[.bool],false⟩,⟨50,20,[.st .az],[.int .i64],true⟩,⟨96,21,[.int .i64],[.str],false⟩,⟨97,22,[.str],[.str],false⟩,⟨78,23,[.str],[.bool],false⟩,⟨54,24,[.str],[.str],false⟩,⟨200,25,[.int .i64],[.int .i64],true⟩,⟨199,26,[.int .u8],[.int .i64],false⟩,⟨128,27,[.str],[.str,.int .i64],false⟩,⟨259,28,[.li .str,.str],[.int .i64],true⟩,⟨237,29,[.li .str,.str],[.bool],true⟩,⟨206,30,[.li .str,.str],[.int .i64],true⟩,⟨280,31,[.li .str],[.int .i64],false⟩,⟨242,32,[.st .Attr],[.int .i64],false⟩,⟨257,33,[.st .aA],[.bool],true⟩,⟨292,34,[.st .Attr],[.bool],true⟩,⟨224,35,[.li .str],[.li .str],false⟩,⟨261,36,[.st .aA,.str],[.st .Attr,.bool],false⟩,⟨208,37,[.st .Attr,.st .az],[.int .i64],false⟩,⟨316,38,[.li .str,.li .str],[.bool],false⟩,⟨315,39,[.st .Attr,.st .Attr],[.bool],false⟩,⟨311,40,[.st .bV,.st .Attr,.st .Attr],[.bool],false⟩,⟨293,41,[.st .aA,.st .Attr,.st .bV],[.int .i64],false⟩,⟨258,42,[.st .aA,.int .i64],[.int .i64],false⟩,⟨205,43,[.st .aA],[.int .i64],false⟩,⟨136,44,[.li .aA],[.int .i64],false⟩,⟨137,45,[.st .Home],[.mp (.str) (.st .aA)],true⟩,⟨138,46,[.st .bx],[.bool],true⟩,⟨139,47,[.st .bx,.mp (.str) (.st .aA)],[.int .i64],true⟩,⟨65,48,[.st .Home],[.int .i64],false⟩,⟨71,49,[.st .aT],[.st .aT],true⟩,⟨260,50,[.st .Home,.int .i64],[.st .bx,.bool],false⟩,⟨207,51,[.st .Home,.st .cB],[.st .Attr,.bool],false⟩,⟨140,52,[.st .Home,.st .aT],[.int .i64],false⟩,⟨180,53,[.st .Home,.int .i64,.str],[.st .aA,.bool],false⟩,⟨262,54,[.li .bV],[.li .bV],false⟩,⟨209,55,[.st .aA,.str],[.st .Command,.bool],false⟩,⟨141,56,[.st .Home,.st .aT],[.int .i64],false⟩,⟨73,57,[.st .Home,.st .aT],[.int .i64],false⟩,⟨23,58,[.st .Home,.st .aT],[.int .i64],false⟩,⟨247,59,[.li .str,.str],[.bool],true⟩,⟨187,60,[.st .Attr],[.int .i64],false⟩,⟨190,61,[.st .aA,.str],[.int .i64],true⟩,⟨248,62,[.st .aA],[.bool],true⟩,⟨302,63,[.li .str,.li .str],[.bool],false⟩,⟨283,64,[.st .Attr,.st .Attr],[.bool],false⟩,⟨211,65,[.st .aA,.str],[.st .Attr,.bool],false⟩,⟨145,66,[.st .Attr,.st .az],[.int .i64],false⟩,⟨303,67,[.st .bV,.st .Attr,.st .Attr],[.bool],false⟩,⟨284,68,[.st .aA,.st .Attr,.st .bV],[.int .i64],false⟩,⟨249,69,[.st .aA,.int .i64],[.int .i64],false⟩,⟨189,70,[.st .aA],[.int .i64],false⟩,⟨142,71,[.li .aA],[.int .i64],false⟩,⟨184,72,[.li .str,.str],[.int .i64],true⟩,⟨185,73,[.st .Home,.str],[.int .i64],false⟩,⟨210,74,[.st .Home,.st .bx],[.int .i64],false⟩,⟨143,75,[.st .Home,.int .i64],[.int .i64],false⟩,⟨74,76,[.st .Home],[.int .i64],false⟩,⟨75,77,[.st .aT],[.bool],true⟩,⟨175,78,[.st .Home,.int .i64],[.int .i64],false⟩,⟨114,79,[.st .Home,.int .i64,.str],[.st .aA,.bool],false⟩,⟨144,80,[.st .Home,.st .cB],[.st .Attr,.bool],false⟩,⟨76,81,[.st .Home,.st .aT],[.int .i64],false⟩,⟨146,82,[.st .aA,.str],[.st .Command,.bool],true⟩,⟨77,83,[.st .Home,.st .aT],[.int .i64],false⟩,⟨24,84,[.st .Home,.st .aT],[.int .i64],false⟩,⟨295,85,[.str],[.int .u64],false⟩,⟨266,86,[.int .u64,.str],[.int .i64],false⟩,⟨217,87,[.int .u64,.str],[.str,.int .i64],false⟩,⟨218,88,[.st .eO],[.int .i64],false⟩,⟨159,89,[.int .u64,.str],[.st .eO,.int .i64],false⟩,⟨219,90,[.li .i64,.int .i64],[.int .i64],true⟩,⟨160,91,[.li .i64,.int .i64],[.bool],true⟩,⟨100,92,[.int .u64,.str,.int .i64,.li .i64],[.st .eO,.int .i64],false⟩,⟨296,93,[.st .eZ],[.bool],true⟩,⟨268,94,[.li .eZ],[.int .i64],true⟩,⟨220,95,[.st .Home,.li .cC,.int .i64],[.int .i64],false⟩,⟨222,96,[.st .cC],[.bool],true⟩,⟨161,97,[.st .Home,.li .cC],[.int .i64],false⟩,⟨223,98,[.li .eZ],[.li .eZ],false⟩,⟨162,99,[.li .cC,.str],[.st .cC,.bool],false⟩,⟨272,100,[.st .Home,.int .i64],[.str],false⟩,⟨297,101,[.st .Home,.st .cB],[.bool],false⟩,⟨299,102,[.st .Home,.int .i64],[.li .cB],false⟩,⟨273,103,[.st .Home,.st .aT],[.bool],false⟩,⟨163,104,[.st .Home,.st .cC,.int .i64,.st .aT],[.int .i64],false⟩,⟨103,105,[.st .Home,.li .cC,.str,.int .i64,.st .aT],[.int .i64],false⟩,⟨104,106,[.li .cS,.str],[.int .i64,.bool],true⟩,⟨105,107,[],[.st .fp],true⟩,⟨167,108,[.st .fp],[.int .i64],false⟩,⟨106,109,[.st .fp,.int .i64],[.st .fp,.bool],false⟩,⟨31,110,[.st .Config,.li .cC,.li .cS,.li .i64,.st .iu,.int .i64,.int .i64],[.str,.li .cS,.int .i64],false⟩,⟨147,111,[],[.li .aA],false⟩,⟨79,112,[],[.st .Config,.li .cC],false⟩,⟨148,113,[.st .eO],[.int .i64],false⟩,⟨215,114,[.int .i64],[.str],true⟩,⟨263,115,[.str],[.int .u64],false⟩,⟨264,116,[.int .u64],[.str],false⟩,⟨216,117,[.int .u64,.str],[.int .i64],false⟩,⟨149,118,[.int .u64,.str],[.str],false⟩,⟨150,119,[.st .eO],[.str],false⟩,⟨80,120,[.int .u64,.st .eO],[.str,.int .i64],false⟩,⟨25,121,[],[.bool],false⟩,⟨30,122,[.st .Case],[.bool],false⟩,⟨35,123,[.li .cm,.li .cm],[.bool],false⟩,⟨241,124,[.li .ck,.st .cB],[.int .i64],true⟩,⟨181,125,[.li .ck,.st .cB],[.st .ck,.bool],false⟩,⟨243,126,[.int .i64,.int .i64,.int .i64],[.int .i64],true⟩,⟨182,127,[.st .Attr],[.st .az],false⟩,⟨244,128,[.st .Command,.st .az],[.int .i64],false⟩,⟨301,129,[.bool],[.int .i64],true⟩,⟨281,130,[.int .i64,.int .i64],[.int .i64],true⟩,⟨282,131,[.st .Attr,.st .az],[.st .az],false⟩,⟨246,132,[.st .bV,.st .Attr,.st .az,.st .az],[.st .az],false⟩,⟨183,133,[.st .aA,.str,.st .az,.li .az],[.li .az,.int .i64],false⟩,⟨113,134,[.st .Home,.li .ck,.st .aT,.st .dF],[.li .cm],false⟩,⟨36,135,[.st .Home,.li .ck,.st .aT,.st .dF],[.li .cm],false⟩,⟨186,136,[.li .ck,.st .cB],[.int .i64],true⟩,⟨115,137,[.li .ck,.st .cB],[.st .ck,.bool],false⟩,⟨188,138,[.st .Attr,.st .az],[.st .az],false⟩,⟨116,139,[.st .Attr],[.st .az],false⟩,⟨191,140,[.st .bV,.st .Attr,.st .az,.st .az],[.st .az],false⟩,⟨117,141,[.st .aA,.str,.st .az,.li .az],[.li .az,.int .i64],false⟩,⟨37,142,[.st .Home,.li .ck,.st .aT,.st .dF],[.li .cm],false⟩,⟨12,143,[.st .Home,.li .ck,.st .Case],[.bool],false⟩]
def CY:List jY:=[⟨151,6,206,.Rd,[],[.int .i64],true⟩,⟨82,8,206,.Rd,[],[.int .i64],false⟩,⟨153,9,206,.Rd,[.int .i64],[.int .i64],false⟩,⟨83,10,206,.Rd,[.int .i64],[.str],false⟩,⟨154,11,206,.Rd,[.int .i64],[],true⟩,⟨84,12,206,.Rd,[],[.st .az],false⟩,⟨155,13,206,.Rd,[],[.int .i64],true⟩,⟨85,14,206,.Rd,[],[.int .i64],true⟩]
@[reducible] noncomputable def bj:Program:=Go.Proofs.Tryz.prog
def y8:List ll:=[⟨99,132,.cS,32⟩,⟨245,25,.az,32⟩]
def vZ:List ll:=[⟨107,132,.cS,32⟩]
@[reducible] noncomputable def zaD(k j:Nat):Nat→List ab→aq→aD:=y7 bj (h5.all bj sf) sf (60,108,5) y8 vZ (CY.take j) (AC.take k) 16
def zaE:List (Nat × Nat × qN):=[
 (136,0,.CZ [(11,25,.az)] (.f1 (.iz .Attr) (.fd .aA 9 1 (.li .Attr))) ⟨⟨[(0,(.bO [(.fd .Home 0 0 (.li .aA)),(.fd .Home 0 1 (.li .bx))])),(1,(.aQ (.li .ck) 1)),(2,(.bO [(.fd .aT 2 0 (.int .i64)),(.fd .aT 2 1 (.int .i64)),(.fd .aT 2 2 (.int .i64)),(.fd .aT 2 3 .str),(.fd .aT 2 4 .str),(.fd .aT 2 5 .str),(.fd .aT 2 6 (.int .i64)),(.fd .aT 2 7 (.int .i64)),(.fd .aT 2 8 .str),(.fd .aT 2 9 .str)])),(3,(.bO [(.fd .dF 3 0 (.int .i64)),(.fd .dF 3 1 .str),(.fd .dF 3 2 (.int .i64))])),(4,(.cq 0 0)),(6,(.cq 1 0)),(7,(.cq 2 0)),(8,(.cs (.slice none 0 0))),(9,(.cq 3 0)),(10,(.aQ .bool 10)),(11,(.aR 4)),(19,(.bO [(.fd .Home 0 0 (.li .aA)),(.fd .Home 0 1 (.li .bx))])),(20,(.bO [(.fd .aT 2 0 (.int .i64)),(.fd .aT 2 1 (.int .i64)),(.fd .aT 2 2 (.int .i64)),(.fd .aT 2 3 .str),(.fd .aT 2 4 .str),(.fd .aT 2 5 .str),(.fd .aT 2 6 (.int .i64)),(.fd .aT 2 7 (.int .i64)),(.fd .aT 2 8 .str),(.fd .aT 2 9 .str)])),(21,(.aQ (.int .i64) 4)),(22,(.aQ .bool 5)),(23,(.cq 1 0)),(24,(.fd .aT 2 0 (.int .i64))),(25,(.aQ .bool 6)),(33,(.cq 1 0)),(34,(.fd .aT 2 0 (.int .i64))),(35,(.aQ .bool 7)),(36,(.tp [(.bO [(.fd .aA 9 0 .str),(.fd .aA 9 1 (.li .Attr)),(.fd .aA 9 2 (.li .Command)),(.fd .aA 9 3 (.li .str))]),(.aQ .bool 10)])),(37,(.bO [(.fd .Home 0 0 (.li .aA)),(.fd .Home 0 1 (.li .bx))])),(38,(.cq 1 2)),(39,(.cq 1 2)),(40,(.fd .aT 2 2 (.int .i64))),(41,(.cq 1 2)),(42,(.cq 1 3)),(43,(.fd .aT 2 3 .str)),(44,(.tp [(.bO [(.fd .aA 9 0 .str),(.fd .aA 9 1 (.li .Attr)),(.fd .aA 9 2 (.li .Command)),(.fd .aA 9 3 (.li .str))]),(.aQ .bool 10)])),(45,(.bO [(.fd .aA 9 0 .str),(.fd .aA 9 1 (.li .Attr)),(.fd .aA 9 2 (.li .Command)),(.fd .aA 9 3 (.li .str))])),(46,(.aQ .bool 10))],[(4,(.rw 25 .az (.aQ (.li .az) 12))),(3,(.cQ 159 [(.fd .aA 9 0 .str),(.fd .aA 9 1 (.li .Attr)),(.fd .aA 9 2 (.li .Command)),(.fd .aA 9 3 (.li .str))])),(2,(.cQ 83 [(.fd .dF 3 0 (.int .i64)),(.fd .dF 3 1 .str),(.fd .dF 3 2 (.int .i64))])),(1,(.cQ 29 [(.fd .aT 2 0 (.int .i64)),(.fd .aT 2 1 (.int .i64)),(.fd .aT 2 2 (.int .i64)),(.fd .aT 2 3 .str),(.fd .aT 2 4 .str),(.fd .aT 2 5 .str),(.fd .aT 2 6 (.int .i64)),(.fd .aT 2 7 (.int .i64)),(.fd .aT 2 8 .str),(.fd .aT 2 9 .str)])),(0,(.cQ 51 [(.fd .Home 0 0 (.li .aA)),(.fd .Home 0 1 (.li .bx))]))],5,[(12,(.li .az),(.row 4))]⟩,
  ⟨[(0,(.bO [(.fd .Home 0 0 (.li .aA)),(.fd .Home 0 1 (.li .bx))])),(1,(.aQ (.li .ck) 1)),(2,(.bO [(.fd .aT 2 0 (.int .i64)),(.fd .aT 2 1 (.int .i64)),(.fd .aT 2 2 (.int .i64)),(.fd .aT 2 3 .str),(.fd .aT 2 4 .str),(.fd .aT 2 5 .str),(.fd .aT 2 6 (.int .i64)),(.fd .aT 2 7 (.int .i64)),(.fd .aT 2 8 .str),(.fd .aT 2 9 .str)])),(3,(.bO [(.fd .dF 3 0 (.int .i64)),(.fd .dF 3 1 .str),(.fd .dF 3 2 (.int .i64))])),(4,(.cq 0 0)),(6,(.cq 1 0)),(7,(.cq 2 0)),(8,(.cs (.slice none 0 0))),(9,(.cq 3 0)),(10,(.aQ .bool 10)),(11,(.aR 4)),(19,(.bO [(.fd .Home 0 0 (.li .aA)),(.fd .Home 0 1 (.li .bx))])),(20,(.bO [(.fd .aT 2 0 (.int .i64)),(.fd .aT 2 1 (.int .i64)),(.fd .aT 2 2 (.int .i64)),(.fd .aT 2 3 .str),(.fd .aT 2 4 .str),(.fd .aT 2 5 .str),(.fd .aT 2 6 (.int .i64)),(.fd .aT 2 7 (.int .i64)),(.fd .aT 2 8 .str),(.fd .aT 2 9 .str)])),(21,(.aQ (.int .i64) 4)),(22,(.aQ .bool 5)),(23,(.cq 1 0)),(24,(.fd .aT 2 0 (.int .i64))),(25,(.aQ .bool 6)),(33,(.cq 1 0)),(34,(.fd .aT 2 0 (.int .i64))),(35,(.aQ .bool 7)),(36,(.tp [(.bO [(.fd .aA 9 0 .str),(.fd .aA 9 1 (.li .Attr)),(.fd .aA 9 2 (.li .Command)),(.fd .aA 9 3 (.li .str))]),(.aQ .bool 10)])),(37,(.bO [(.fd .Home 0 0 (.li .aA)),(.fd .Home 0 1 (.li .bx))])),(38,(.cq 1 2)),(39,(.cq 1 2)),(40,(.fd .aT 2 2 (.int .i64))),(41,(.cq 1 2)),(42,(.cq 1 3)),(43,(.fd .aT 2 3 .str)),(44,(.tp [(.bO [(.fd .aA 9 0 .str),(.fd .aA 9 1 (.li .Attr)),(.fd .aA 9 2 (.li .Command)),(.fd .aA 9 3 (.li .str))]),(.aQ .bool 10)])),(45,(.bO [(.fd .aA 9 0 .str),(.fd .aA 9 1 (.li .Attr)),(.fd .aA 9 2 (.li .Command)),(.fd .aA 9 3 (.li .str))])),(46,(.aQ .bool 10))],[(4,(.rw 25 .az (.aQ (.li .az) 12))),(3,(.cQ 159 [(.fd .aA 9 0 .str),(.fd .aA 9 1 (.li .Attr)),(.fd .aA 9 2 (.li .Command)),(.fd .aA 9 3 (.li .str))])),(2,(.cQ 83 [(.fd .dF 3 0 (.int .i64)),(.fd .dF 3 1 .str),(.fd .dF 3 2 (.int .i64))])),(1,(.cQ 29 [(.fd .aT 2 0 (.int .i64)),(.fd .aT 2 1 (.int .i64)),(.fd .aT 2 2 (.int .i64)),(.fd .aT 2 3 .str),(.fd .aT 2 4 .str),(.fd .aT 2 5 .str),(.fd .aT 2 6 (.int .i64)),(.fd .aT 2 7 (.int .i64)),(.fd .aT 2 8 .str),(.fd .aT 2 9 .str)])),(0,(.cQ 51 [(.fd .Home 0 0 (.li .aA)),(.fd .Home 0 1 (.li .bx))]))],5,[(12,(.li .az),(.row 4))]⟩,12,(.aQ (.int .i64) 11)⟩),
 (136,2,.ep [(17,155,.cm)] ⟨[(0,(.bO [(.fd .Home 0 0 (.li .aA)),(.fd .Home 0 1 (.li .bx))])),(1,(.aQ (.li .ck) 1)),(2,(.bO [(.fd .aT 2 0 (.int .i64)),(.fd .aT 2 1 (.int .i64)),(.fd .aT 2 2 (.int .i64)),(.fd .aT 2 3 .str),(.fd .aT 2 4 .str),(.fd .aT 2 5 .str),(.fd .aT 2 6 (.int .i64)),(.fd .aT 2 7 (.int .i64)),(.fd .aT 2 8 .str),(.fd .aT 2 9 .str)])),(3,(.bO [(.fd .dF 3 0 (.int .i64)),(.fd .dF 3 1 .str),(.fd .dF 3 2 (.int .i64))])),(4,(.cq 0 0)),(6,(.cq 1 0)),(7,(.cq 2 0)),(8,(.cs (.slice none 0 0))),(9,(.cq 3 0)),(10,(.aQ .bool 10)),(11,(.aQ (.li .az) 12)),(15,(.aQ (.li .az) 14)),(16,(.aQ (.int .i64) 15)),(17,(.aR 5)),(18,(.aQ (.int .i64) 16)),(19,(.bO [(.fd .Home 0 0 (.li .aA)),(.fd .Home 0 1 (.li .bx))])),(20,(.bO [(.fd .aT 2 0 (.int .i64)),(.fd .aT 2 1 (.int .i64)),(.fd .aT 2 2 (.int .i64)),(.fd .aT 2 3 .str),(.fd .aT 2 4 .str),(.fd .aT 2 5 .str),(.fd .aT 2 6 (.int .i64)),(.fd .aT 2 7 (.int .i64)),(.fd .aT 2 8 .str),(.fd .aT 2 9 .str)])),(21,(.aQ (.int .i64) 4)),(22,(.aQ .bool 5)),(23,(.cq 1 0)),(24,(.fd .aT 2 0 (.int .i64))),(25,(.aQ .bool 6)),(33,(.cq 1 0)),(34,(.fd .aT 2 0 (.int .i64))),(35,(.aQ .bool 7)),(36,(.tp [(.bO [(.fd .aA 9 0 .str),(.fd .aA 9 1 (.li .Attr)),(.fd .aA 9 2 (.li .Command)),(.fd .aA 9 3 (.li .str))]),(.aQ .bool 10)])),(37,(.bO [(.fd .Home 0 0 (.li .aA)),(.fd .Home 0 1 (.li .bx))])),(38,(.cq 1 2)),(39,(.cq 1 2)),(40,(.fd .aT 2 2 (.int .i64))),(41,(.cq 1 2)),(42,(.cq 1 3)),(43,(.fd .aT 2 3 .str)),(44,(.tp [(.bO [(.fd .aA 9 0 .str),(.fd .aA 9 1 (.li .Attr)),(.fd .aA 9 2 (.li .Command)),(.fd .aA 9 3 (.li .str))]),(.aQ .bool 10)])),(45,(.bO [(.fd .aA 9 0 .str),(.fd .aA 9 1 (.li .Attr)),(.fd .aA 9 2 (.li .Command)),(.fd .aA 9 3 (.li .str))])),(46,(.aQ .bool 10)),(85,(.tp [(.aQ (.li .az) 14),(.aQ (.int .i64) 15)])),(86,(.bO [(.fd .aA 9 0 .str),(.fd .aA 9 1 (.li .Attr)),(.fd .aA 9 2 (.li .Command)),(.fd .aA 9 3 (.li .str))])),(87,(.cq 1 5)),(88,(.fd .aT 2 5 .str)),(89,(.cq 1 6)),(90,(.bO [(.fd .aT 2 6 (.int .i64)),(.fd .aT 2 7 (.int .i64)),(.fd .aT 2 8 .str)])),(91,(.aQ (.li .az) 12)),(92,(.tp [(.aQ (.li .az) 14),(.aQ (.int .i64) 15)])),(93,(.aQ (.li .az) 14)),(94,(.aQ (.int .i64) 15))],[(5,(.rw 155 .cm (.aQ (.li .cm) 17))),(3,(.cQ 159 [(.fd .aA 9 0 .str),(.fd .aA 9 1 (.li .Attr)),(.fd .aA 9 2 (.li .Command)),(.fd .aA 9 3 (.li .str))])),(2,(.cQ 83 [(.fd .dF 3 0 (.int .i64)),(.fd .dF 3 1 .str),(.fd .dF 3 2 (.int .i64))])),(1,(.cQ 29 [(.fd .aT 2 0 (.int .i64)),(.fd .aT 2 1 (.int .i64)),(.fd .aT 2 2 (.int .i64)),(.fd .aT 2 3 .str),(.fd .aT 2 4 .str),(.fd .aT 2 5 .str),(.fd .aT 2 6 (.int .i64)),(.fd .aT 2 7 (.int .i64)),(.fd .aT 2 8 .str),(.fd .aT 2 9 .str)])),(0,(.cQ 51 [(.fd .Home 0 0 (.li .aA)),(.fd .Home 0 1 (.li .bx))]))],6,[(16,(.int .i64),(.slot 18 [])),(17,(.li .cm),(.row 5))]⟩
  ⟨[(0,(.bO [(.fd .Home 0 0 (.li .aA)),(.fd .Home 0 1 (.li .bx))])),(1,(.aQ (.li .ck) 1)),(2,(.bO [(.fd .aT 2 0 (.int .i64)),(.fd .aT 2 1 (.int .i64)),(.fd .aT 2 2 (.int .i64)),(.fd .aT 2 3 .str),(.fd .aT 2 4 .str),(.fd .aT 2 5 .str),(.fd .aT 2 6 (.int .i64)),(.fd .aT 2 7 (.int .i64)),(.fd .aT 2 8 .str),(.fd .aT 2 9 .str)])),(3,(.bO [(.fd .dF 3 0 (.int .i64)),(.fd .dF 3 1 .str),(.fd .dF 3 2 (.int .i64))])),(4,(.cq 0 0)),(6,(.cq 1 0)),(7,(.cq 2 0)),(8,(.cs (.slice none 0 0))),(9,(.cq 3 0)),(10,(.aQ .bool 10)),(11,(.aQ (.li .az) 12)),(15,(.aQ (.li .az) 14)),(16,(.aQ (.int .i64) 15)),(17,(.aR 5)),(18,(.aQ (.int .i64) 16)),(19,(.bO [(.fd .Home 0 0 (.li .aA)),(.fd .Home 0 1 (.li .bx))])),(20,(.bO [(.fd .aT 2 0 (.int .i64)),(.fd .aT 2 1 (.int .i64)),(.fd .aT 2 2 (.int .i64)),(.fd .aT 2 3 .str),(.fd .aT 2 4 .str),(.fd .aT 2 5 .str),(.fd .aT 2 6 (.int .i64)),(.fd .aT 2 7 (.int .i64)),(.fd .aT 2 8 .str),(.fd .aT 2 9 .str)])),(21,(.aQ (.int .i64) 4)),(22,(.aQ .bool 5)),(23,(.cq 1 0)),(24,(.fd .aT 2 0 (.int .i64))),(25,(.aQ .bool 6)),(33,(.cq 1 0)),(34,(.fd .aT 2 0 (.int .i64))),(35,(.aQ .bool 7)),(36,(.tp [(.bO [(.fd .aA 9 0 .str),(.fd .aA 9 1 (.li .Attr)),(.fd .aA 9 2 (.li .Command)),(.fd .aA 9 3 (.li .str))]),(.aQ .bool 10)])),(37,(.bO [(.fd .Home 0 0 (.li .aA)),(.fd .Home 0 1 (.li .bx))])),(38,(.cq 1 2)),(39,(.cq 1 2)),(40,(.fd .aT 2 2 (.int .i64))),(41,(.cq 1 2)),(42,(.cq 1 3)),(43,(.fd .aT 2 3 .str)),(44,(.tp [(.bO [(.fd .aA 9 0 .str),(.fd .aA 9 1 (.li .Attr)),(.fd .aA 9 2 (.li .Command)),(.fd .aA 9 3 (.li .str))]),(.aQ .bool 10)])),(45,(.bO [(.fd .aA 9 0 .str),(.fd .aA 9 1 (.li .Attr)),(.fd .aA 9 2 (.li .Command)),(.fd .aA 9 3 (.li .str))])),(46,(.aQ .bool 10)),(85,(.tp [(.aQ (.li .az) 14),(.aQ (.int .i64) 15)])),(86,(.bO [(.fd .aA 9 0 .str),(.fd .aA 9 1 (.li .Attr)),(.fd .aA 9 2 (.li .Command)),(.fd .aA 9 3 (.li .str))])),(87,(.cq 1 5)),(88,(.fd .aT 2 5 .str)),(89,(.cq 1 6)),(90,(.bO [(.fd .aT 2 6 (.int .i64)),(.fd .aT 2 7 (.int .i64)),(.fd .aT 2 8 .str)])),(91,(.aQ (.li .az) 12)),(92,(.tp [(.aQ (.li .az) 14),(.aQ (.int .i64) 15)])),(93,(.aQ (.li .az) 14)),(94,(.aQ (.int .i64) 15))],[(5,(.rw 155 .cm (.aQ (.li .cm) 17))),(3,(.cQ 159 [(.fd .aA 9 0 .str),(.fd .aA 9 1 (.li .Attr)),(.fd .aA 9 2 (.li .Command)),(.fd .aA 9 3 (.li .str))])),(2,(.cQ 83 [(.fd .dF 3 0 (.int .i64)),(.fd .dF 3 1 .str),(.fd .dF 3 2 (.int .i64))])),(1,(.cQ 29 [(.fd .aT 2 0 (.int .i64)),(.fd .aT 2 1 (.int .i64)),(.fd .aT 2 2 (.int .i64)),(.fd .aT 2 3 .str),(.fd .aT 2 4 .str),(.fd .aT 2 5 .str),(.fd .aT 2 6 (.int .i64)),(.fd .aT 2 7 (.int .i64)),(.fd .aT 2 8 .str),(.fd .aT 2 9 .str)])),(0,(.cQ 51 [(.fd .Home 0 0 (.li .aA)),(.fd .Home 0 1 (.li .bx))]))],6,[(16,(.int .i64),(.slot 18 [])),(17,(.li .cm),(.row 5))]⟩)]
structure bE (G:bd) (k j:Nat):Prop where
 z:tX bj G 60 108 5
 r: ∀r∈y8,nr bj G r
 ii: ∀r∈vZ,tQ bj G r
 c:qL bj G ub (AC.take k)
 b:J9 bj G ub (CY.take j)
theorem QP{α:Type}{l:List α}{k:Nat}{c:α}(h:l[k]? =some c){d:α}(hd:d∈l.take (k+1)):d∈l.take k∨d=c:=by
 rw[List.take_add_one,h,Option.toList_some,List.mem_append,List.mem_singleton]at hd
 exact hd
section
variable {G:bd}
theorem bE.i{k j:Nat}(h:bE G k j):fE bj G ub (zaD k j):=CL (Z:=(60,108,5)) Hs h.r h.ii h.z h.b h.c 16
theorem bE.zaF{k j:Nat}(h:bE G k j):fE bj G ub (y7 bj (h5.QQ zaE bj sf) sf (60,108,5) y8 vZ (CY.take j) (AC.take k) 16):=CL (Z:=(60,108,5)) zaG h.r h.ii h.z h.b h.c 16
theorem bE.cs{k j:Nat}(h:bE G k j)(c:iy)(m:aV)(aj:AC[k]? =some c)(hm:e7 aV.d ub c.j=m)(ak:m.ps=c.ps)(ag:m.rs=c.rs)(ao:bG bj G c.f m)(hc:c.eU=true→m.pre=none):bE G (k+1) j:=
 ⟨h.z,h.r,h.ii,fun d hd=>(QP aj hd).elim (h.c d) (fun e=>e ▸ (by subst hm;exact⟨ak,ag,ao,hc⟩)),h.b⟩
theorem bE.cY{k j:Nat}(h:bE G k j)(c:jY)(m:aV)(aj:CY[j]? =some c)(hm:e7 aV.d ub c.j=m)(ak:m.ps= .st c.c::c.ps)(ag:m.rs= .st c.c::c.rs)(ao:mJ bj G c.f c.t m)(hc:c.eU=true→m.pre=none):bE G k (j+1):=
 ⟨h.z,h.r,h.ii,h.c,fun d hd=>(QP aj hd).elim (h.b d) (fun e=>e ▸ (by subst hm;exact⟨ak,ag,ao,hc⟩))⟩
end
end Go.aO
