/- Contracts: data. Conditions: none. -/
import Derived.Test.YtmkpmgfieagphaaGreatDoorHPm
import Derived.Test.YtmkpmgfieagphaaGreatDoorHTEp
import Derived.Test.YtmkpmgfieagphaaGreatDoorProg
open Go Go.aN Go.eg
namespace Go.aN
def w5:List (Nat × bR):=[(2,.i64),(3,.i64),(4,.bool),(5,.u8),(6,.u8),(9,.str),(10,.str),(11,.str),(23,.cd),(25,.c6),(27,.m5),(29,.bQ),(31,.gl),(33,.nW),(34,.i64),(51,.Home),(62,.m6),(65,.Config),(70,.Case),(78,.cv),(83,.m7),(130,.dS),(132,.aX),(142,.br),(155,.nX),(159,.aO),(164,.jn),(168,.Attr),(189,.bA),(198,.Command),(206,.Rd),(212,.dA),(236,.cX),(261,.df),(340,.u8),(341,.u8),(349,.jP),(351,.j6),(353,.Change)]
noncomputable def IT:aS:=⟨[.int .i64],[.str],some fun x=>oJ x,fun x=>gb x⟩
noncomputable def IU:aS:=⟨[.str],[.str],some fun x=>sv x,fun x=>iy x⟩
noncomputable def IV:aS:=⟨[.int .i64],[.bool],none,fun x=>sw x⟩
noncomputable def IW:aS:=⟨[.st .c6],[.int .i64],none,fun x=>mX x⟩
noncomputable def IX:aS:=⟨[.st .c6],[.str],some fun x=>Hk x,fun x=>pY x⟩
noncomputable def IY:aS:=⟨[.st .bQ],[.str],some fun x=>Hl x,fun x=>zo x⟩
noncomputable def IZ:aS:=⟨[.st .Rd],[.st .Rd,.int .i64],none,fun x=>nK x⟩
noncomputable def I0:aS:=⟨[.str],[.int .u64,.int .i64,.int .i64],some fun x=>He x,fun x=>zj x⟩
noncomputable def I1:aS:=⟨[.st .Rd],[.st .Rd,.int .i64],some fun x=>nN x,fun x=>hj x⟩
noncomputable def I2:aS:=⟨[.st .Rd,.int .i64],[.st .Rd,.int .i64],some fun x=>Hf (x.1) (x.2),fun x=>zl (x.1) (x.2)⟩
noncomputable def I3:aS:=⟨[.st .Rd,.int .i64],[.st .Rd,.str],some fun x=>sy (x.1) (x.2),fun x=>iz (x.1) (x.2)⟩
noncomputable def I4:aS:=⟨[.st .Rd,.int .i64],[.st .Rd],none,fun x=>CH (x.1) (x.2)⟩
noncomputable def I5:aS:=⟨[.st .Rd],[.st .Rd,.st .c6],some fun x=>CI x,fun x=>wu x⟩
noncomputable def I6:aS:=⟨[.st .Rd],[.st .Rd,.int .i64],none,fun x=>Hd x⟩
noncomputable def I7:aS:=⟨[.st .Rd],[.st .Rd,.int .i64],none,fun x=>wv x⟩
noncomputable def I8:aS:=⟨[.st .bQ],[.int .i64],none,fun x=>zM x⟩
noncomputable def I9:aS:=⟨[.st .bQ],[.int .i64],none,fun x=>zN x⟩
noncomputable def Ja:aS:=⟨[.str],[.st .bQ,.int .i64],some fun x=>CJ x,fun x=>IM x⟩
noncomputable def Jb:aS:=⟨[.int .i32],[.bool],none,fun x=>IN x⟩
noncomputable def Jc:aS:=⟨[.str],[.bool],some fun x=>nO x,fun x=>iA x⟩
noncomputable def Jd:aS:=⟨[.st .dA],[.st .dA,.int .i64],none,fun x=>pW x⟩
noncomputable def Je:aS:=⟨[.st .dA],[.st .dA,.int .i64],some fun x=>uh x,fun x=>oK x⟩
noncomputable def Jf:aS:=⟨[.st .dA,.int .i64],[.st .dA,.int .i64],some fun x=>Hh (x.1) (x.2),fun x=>zm (x.1) (x.2)⟩
noncomputable def Jg:aS:=⟨[.st .dA,.int .i64],[.st .dA,.str],some fun x=>Hi (x.1) (x.2),fun x=>uf (x.1) (x.2)⟩
noncomputable def Jh:aS:=⟨[.st .c6],[.int .i64],none,fun x=>wm x⟩
noncomputable def Ji:aS:=⟨[.st .dA],[.st .dA,.int .i64],none,fun x=>zn x⟩
noncomputable def Jj:aS:=⟨[.int .i64],[.str],some fun x=>pV x,fun x=>j2 x⟩
noncomputable def Jk:aS:=⟨[.str],[.str],some fun x=>CG x,fun x=>q1 x⟩
noncomputable def Jl:aS:=⟨[.str],[.bool],some fun x=>nP x,fun x=>iB x⟩
noncomputable def Jm:aS:=⟨[.str],[.str],some fun x=>HX x,fun x=>R3 x⟩
noncomputable def Jn:aS:=⟨[.int .i64],[.int .i64],none,fun x=>CV x⟩
noncomputable def Jo:aS:=⟨[.int .u8],[.int .i64],some fun x=>zP x,fun x=>uC x⟩
noncomputable def Jp:aS:=⟨[.str],[.str,.int .i64],some fun x=>Dj x,fun x=>jL x⟩
noncomputable def Jq:aS:=⟨[.int .u8],[.int .i64],none,fun x=>uB x⟩
noncomputable def Jr:aS:=⟨[.str],[.str,.int .i64],some fun x=>Dv x,fun x=>zX x⟩
noncomputable def Js:aS:=⟨[.li .str,.str],[.int .i64],none,fun x=>lF (x.1) (x.2)⟩
noncomputable def Jt:aS:=⟨[.li .str,.str],[.bool],none,fun x=>hM (x.1) (x.2)⟩
noncomputable def Ju:aS:=⟨[.li .str,.str],[.int .i64],none,fun x=>p0 (x.1) (x.2)⟩
noncomputable def Jv:aS:=⟨[.li .str],[.int .i64],some fun x=>CP x,fun x=>wJ x⟩
noncomputable def Jw:aS:=⟨[.st .Attr],[.int .i64],some fun x=>wI x,fun x=>kY x⟩
noncomputable def Jx:aS:=⟨[.st .aO],[.bool],none,fun x=>oP x⟩
noncomputable def Jy:aS:=⟨[.st .Attr],[.bool],none,fun x=>uk x⟩
noncomputable def DL:aS:=⟨[.li .str],[.li .str],some fun x=>wH x,fun x=>D0 x⟩
noncomputable def Jz:aS:=⟨[.st .aO,.str],[.st .Attr,.bool],some fun x=>zr (x.1) (x.2),fun x=>sB (x.1) (x.2)⟩
noncomputable def JA:aS:=⟨[.st .Attr,.st .c6],[.int .i64],some fun x=>zp (x.1) (x.2),fun x=>wL (x.1) (x.2)⟩
noncomputable def JB:aS:=⟨[.li .str,.li .str],[.bool],some fun x=>Hp (x.1) (x.2),fun x=>zw (x.1) (x.2)⟩
noncomputable def JC:aS:=⟨[.st .Attr,.st .Attr],[.bool],some fun x=>Hq (x.1) (x.2),fun x=>CW (x.1) (x.2)⟩
noncomputable def JD:aS:=⟨[.st .cX,.st .Attr,.st .Attr],[.bool],some fun x=>CQ (x.1) (x.2.1) (x.2.2),fun x=>CY (x.1) (x.2.1) (x.2.2)⟩
noncomputable def JE:aS:=⟨[.st .aO,.st .Attr,.st .cX],[.int .i64],some fun x=>CR (x.1) (x.2.1) (x.2.2),fun x=>p2 (x.1) (x.2.1) (x.2.2)⟩
noncomputable def JF:aS:=⟨[.st .aO,.int .i64],[.int .i64],some fun x=>CS (x.1) (x.2),fun x=>q7 (x.1) (x.2)⟩
noncomputable def JG:aS:=⟨[.st .aO],[.int .i64],some fun x=>Hs x,fun x=>p3 x⟩
noncomputable def JH:aS:=⟨[.li .aO],[.int .i64],some fun x=>Ht x,fun x=>nQ x⟩
noncomputable def JI:aS:=⟨[.st .Home],[.mp (.str) (.st .aO)],none,fun x=>kE x⟩
noncomputable def JJ:aS:=⟨[.st .bA],[.bool],none,fun x=>wM x⟩
noncomputable def JK:aS:=⟨[.st .bA,.mp (.str) (.st .aO)],[.int .i64],none,fun x=>sD (x.1) (x.2)⟩
noncomputable def JL:aS:=⟨[.st .Home],[.int .i64],some fun x=>zt x,fun x=>fc x⟩
noncomputable def JM:aS:=⟨[.st .bQ],[.st .bQ],none,fun x=>mf x⟩
noncomputable def JN:aS:=⟨[.st .Home,.int .i64],[.st .bA,.bool],some fun x=>zu (x.1) (x.2),fun x=>lG (x.1) (x.2)⟩
noncomputable def JO:aS:=⟨[.st .Home,.st .cd],[.st .Attr,.bool],some fun x=>C1 (x.1) (x.2),fun x=>uv (x.1) (x.2)⟩
noncomputable def JP:aS:=⟨[.st .Home,.st .bQ],[.int .i64],some fun x=>C2 (x.1) (x.2),fun x=>Df (x.1) (x.2)⟩
noncomputable def JQ:aS:=⟨[.st .Home,.int .i64,.str],[.st .aO,.bool],some fun x=>HE (x.1) (x.2.1) (x.2.2),fun x=>q9 (x.1) (x.2.1) (x.2.2)⟩
noncomputable def DM:aS:=⟨[.li .cX],[.li .cX],some fun x=>CO x,fun x=>R4 x⟩
noncomputable def JR:aS:=⟨[.st .aO,.str],[.st .Command,.bool],some fun x=>HF (x.1) (x.2),fun x=>zL (x.1) (x.2)⟩
noncomputable def JS:aS:=⟨[.st .Home,.st .bQ],[.int .i64],some fun x=>HG (x.1) (x.2),fun x=>Dh (x.1) (x.2)⟩
noncomputable def JT:aS:=⟨[.st .Home,.st .bQ],[.int .i64],some fun x=>C3 (x.1) (x.2),fun x=>zO (x.1) (x.2)⟩
noncomputable def JU:aS:=⟨[.st .Home,.st .bQ],[.int .i64],some fun x=>HH (x.1) (x.2),fun x=>oT (x.1) (x.2)⟩
noncomputable def JV:aS:=⟨[.li .str,.str],[.bool],none,fun x=>uj (x.1) (x.2)⟩
noncomputable def JW:aS:=⟨[.st .Attr],[.int .i64],some fun x=>ur x,fun x=>p1 x⟩
noncomputable def JX:aS:=⟨[.st .aO,.str],[.int .i64],none,fun x=>oO (x.1) (x.2)⟩
noncomputable def JY:aS:=⟨[.st .aO],[.bool],none,fun x=>zA x⟩
noncomputable def JZ:aS:=⟨[.li .str,.li .str],[.bool],some fun x=>C5 (x.1) (x.2),fun x=>zv (x.1) (x.2)⟩
noncomputable def J0:aS:=⟨[.st .Attr,.st .Attr],[.bool],some fun x=>HI (x.1) (x.2),fun x=>zx (x.1) (x.2)⟩
noncomputable def J1:aS:=⟨[.st .aO,.str],[.st .Attr,.bool],some fun x=>C6 (x.1) (x.2),fun x=>um (x.1) (x.2)⟩
noncomputable def J2:aS:=⟨[.st .Attr,.st .c6],[.int .i64],some fun x=>zG (x.1) (x.2),fun x=>wK (x.1) (x.2)⟩
noncomputable def J3:aS:=⟨[.st .cX,.st .Attr,.st .Attr],[.bool],some fun x=>C7 (x.1) (x.2.1) (x.2.2),fun x=>CX (x.1) (x.2.1) (x.2.2)⟩
noncomputable def J4:aS:=⟨[.st .aO,.st .Attr,.st .cX],[.int .i64],some fun x=>C8 (x.1) (x.2.1) (x.2.2),fun x=>zy (x.1) (x.2.1) (x.2.2)⟩
noncomputable def J5:aS:=⟨[.st .aO,.int .i64],[.int .i64],some fun x=>HK (x.1) (x.2),fun x=>zz (x.1) (x.2)⟩
noncomputable def J6:aS:=⟨[.st .aO],[.int .i64],some fun x=>HL x,fun x=>zB x⟩
noncomputable def J7:aS:=⟨[.li .aO],[.int .i64],some fun x=>HM x,fun x=>zC x⟩
noncomputable def J8:aS:=⟨[.li .str,.str],[.int .i64],none,fun x=>q6 (x.1) (x.2)⟩
noncomputable def J9:aS:=⟨[.st .Home,.str],[.int .i64],some fun x=>zH (x.1) (x.2),fun x=>j3 (x.1) (x.2)⟩
noncomputable def Ka:aS:=⟨[.st .Home,.st .bA],[.int .i64],some fun x=>HO (x.1) (x.2),fun x=>q8 (x.1) (x.2)⟩
noncomputable def Kb:aS:=⟨[.st .Home,.int .i64],[.int .i64],some fun x=>HP (x.1) (x.2),fun x=>p6 (x.1) (x.2)⟩
noncomputable def Kc:aS:=⟨[.st .Home],[.int .i64],some fun x=>sI x,fun x=>j4 x⟩
noncomputable def Kd:aS:=⟨[.st .bQ],[.bool],none,fun x=>wO x⟩
noncomputable def Ke:aS:=⟨[.st .Home,.int .i64],[.int .i64],some fun x=>uK (x.1) (x.2),fun x=>hl (x.1) (x.2)⟩
noncomputable def Kf:aS:=⟨[.st .Home,.int .i64,.str],[.st .aO,.bool],some fun x=>Dc (x.1) (x.2.1) (x.2.2),fun x=>sJ (x.1) (x.2.1) (x.2.2)⟩
noncomputable def Kg:aS:=⟨[.st .Home,.st .cd],[.st .Attr,.bool],some fun x=>Dd (x.1) (x.2),fun x=>uu (x.1) (x.2)⟩
noncomputable def Kh:aS:=⟨[.st .Home,.st .bQ],[.int .i64],some fun x=>HS (x.1) (x.2),fun x=>De (x.1) (x.2)⟩
noncomputable def Ki:aS:=⟨[.st .aO,.str],[.st .Command,.bool],none,fun x=>zK (x.1) (x.2)⟩
noncomputable def Kj:aS:=⟨[.st .Home,.st .bQ],[.int .i64],some fun x=>HT (x.1) (x.2),fun x=>Dg (x.1) (x.2)⟩
noncomputable def Kk:aS:=⟨[.st .Home,.st .bQ],[.int .i64],some fun x=>zJ (x.1) (x.2),fun x=>uw (x.1) (x.2)⟩
noncomputable def Kl:aS:=⟨[.str],[.int .u64],some fun x=>HY x,fun x=>R5 x⟩
noncomputable def Km:aS:=⟨[.int .u64,.str],[.int .i64],some fun x=>Dk (x.1) (x.2),fun x=>zY (x.1) (x.2)⟩
noncomputable def Kn:aS:=⟨[.int .u64,.str],[.str,.int .i64],some fun x=>HZ (x.1) (x.2),fun x=>mg (x.1) (x.2)⟩
noncomputable def Ko:aS:=⟨[.st .dS],[.int .i64],some fun x=>R6 x,fun x=>Dw x⟩
noncomputable def Kp:aS:=⟨[.int .u64,.str],[.st .dS,.int .i64],some fun x=>H2 (x.1) (x.2),fun x=>wX (x.1) (x.2)⟩
noncomputable def Kq:aS:=⟨[.li .i64,.int .i64],[.int .i64],none,fun x=>Dx (x.1) (x.2)⟩
noncomputable def Kr:aS:=⟨[.li .i64,.int .i64],[.bool],none,fun x=>z6 (x.1) (x.2)⟩
noncomputable def Ks:aS:=⟨[.int .u64,.str,.int .i64,.li .i64],[.st .dS,.int .i64],some fun x=>H3 (x.1) (x.2.1) (x.2.2.1) (x.2.2.2),fun x=>iN (x.1) (x.2.1) (x.2.2.1) (x.2.2.2)⟩
noncomputable def Kt:aS:=⟨[.st .df],[.bool],none,fun x=>uE x⟩
noncomputable def Ku:aS:=⟨[.li .df],[.int .i64],none,fun x=>Ah x⟩
noncomputable def Kv:aS:=⟨[.st .Home,.li .br,.int .i64],[.int .i64],some fun x=>Dp (x.1) (x.2.1) (x.2.2),fun x=>m2 (x.1) (x.2.1) (x.2.2)⟩
noncomputable def Kw:aS:=⟨[.st .br],[.bool],none,fun x=>R7 x⟩
noncomputable def Kx:aS:=⟨[.st .Home,.li .br],[.int .i64],some fun x=>H5 (x.1) (x.2),fun x=>sN (x.1) (x.2)⟩
noncomputable def DN:aS:=⟨[.li .df],[.li .df],some fun x=>H7 x,fun x=>R8 x⟩
noncomputable def Ky:aS:=⟨[.li .br,.str],[.st .br,.bool],some fun x=>H6 (x.1) (x.2),fun x=>Ae (x.1) (x.2)⟩
noncomputable def Kz:aS:=⟨[.st .Home,.int .i64],[.str],some fun x=>rf (x.1) (x.2),fun x=>jf (x.1) (x.2)⟩
noncomputable def KA:aS:=⟨[.st .Home,.st .cd],[.bool],some fun x=>Dq (x.1) (x.2),fun x=>ri (x.1) (x.2)⟩
noncomputable def KB:aS:=⟨[.st .Home,.int .i64],[.li .cd],some fun x=>H8 (x.1) (x.2),fun x=>mj (x.1) (x.2)⟩
noncomputable def KC:aS:=⟨[.st .Home,.st .bQ],[.bool],some fun x=>wS (x.1) (x.2),fun x=>p8 (x.1) (x.2)⟩
noncomputable def KD:aS:=⟨[.st .Home,.st .br,.int .i64,.st .bQ],[.int .i64],some fun x=>Dr (x.1) (x.2.1) (x.2.2.1) (x.2.2.2),fun x=>DG (x.1) (x.2.1) (x.2.2.1) (x.2.2.2)⟩
noncomputable def KE:aS:=⟨[.st .Home,.li .br,.str,.int .i64,.st .bQ],[.int .i64],some fun x=>H9 (x.1) (x.2.1) (x.2.2.1) (x.2.2.2.1) (x.2.2.2.2),fun x=>oV (x.1) (x.2.1) (x.2.2.1) (x.2.2.2.1) (x.2.2.2.2)⟩
noncomputable def KF:aS:=⟨[.li .aX,.str],[.int .i64,.bool],none,fun x=>hL (x.1) (x.2)⟩
noncomputable def KG:aS:=⟨[],[.st .cv],none,fun x=>IP⟩
noncomputable def KH:aS:=⟨[.st .cv],[.int .i64],some fun x=>Ib x,fun x=>oU x⟩
noncomputable def KI:aS:=⟨[.st .cv,.int .i64],[.st .cv,.bool],some fun x=>Ic (x.1) (x.2),fun x=>rh (x.1) (x.2)⟩
noncomputable def KJ:aS:=⟨[.st .Config,.li .br,.li .aX,.li .i64,.st .gl,.int .i64,.int .i64],[.str,.li .aX,.int .i64],some fun x=>uz (x.1) (x.2.1) (x.2.2.1) (x.2.2.2.1) (x.2.2.2.2.1) (x.2.2.2.2.2.1) (x.2.2.2.2.2.2),fun x=>l8 (x.1) (x.2.1) (x.2.2.1) (x.2.2.2.1) (x.2.2.2.2.1) (x.2.2.2.2.2.1) (x.2.2.2.2.2.2)⟩
noncomputable def jm:aS:=⟨[],[.li .aO],some fun x=>Sa,fun x=>R9⟩
noncomputable def KK:aS:=⟨[],[.st .Config,.li .br],some fun x=>Sb,fun x=>Du⟩
noncomputable def KL:aS:=⟨[.st .dS],[.int .i64],some fun x=>IQ x,fun x=>wW x⟩
noncomputable def KM:aS:=⟨[.int .i64],[.str],none,fun x=>ux x⟩
noncomputable def KN:aS:=⟨[.str],[.int .u64],some fun x=>Sd x,fun x=>Sc x⟩
noncomputable def KO:aS:=⟨[.int .u64],[.str],some fun x=>Dl x,fun x=>wQ x⟩
noncomputable def KP:aS:=⟨[.int .u64,.str],[.int .i64],some fun x=>Dm (x.1) (x.2),fun x=>wR (x.1) (x.2)⟩
noncomputable def KQ:aS:=⟨[.int .u64,.str],[.str],some fun x=>Dn (x.1) (x.2),fun x=>wV (x.1) (x.2)⟩
noncomputable def KR:aS:=⟨[.st .dS],[.str],some fun x=>Ds x,fun x=>zU x⟩
noncomputable def KS:aS:=⟨[.int .u64,.st .dS],[.str,.int .i64],some fun x=>Ie (x.1) (x.2),fun x=>zT (x.1) (x.2)⟩
noncomputable def KT:aS:=⟨[],[.bool],some fun x=>zW,fun x=>Dt⟩
noncomputable def KU:aS:=⟨[.st .Case],[.bool],some fun x=>Ii x,fun x=>tV x⟩
noncomputable def KV:aS:=⟨[],[.st .cv],none,fun x=>Se⟩
noncomputable def KW:aS:=⟨[.li .aX,.str],[.st .cv],none,fun x=>uA (x.1) (x.2)⟩
noncomputable def KX:aS:=⟨[.int .u64,.str],[.str,.int .i64],some fun x=>Ik (x.1) (x.2),fun x=>zZ (x.1) (x.2)⟩
noncomputable def KY:aS:=⟨[.int .u64,.str],[.st .dS,.int .i64],some fun x=>Dy (x.1) (x.2),fun x=>z7 (x.1) (x.2)⟩
noncomputable def KZ:aS:=⟨[.li .i64,.int .i64],[.bool],none,fun x=>z1 (x.1) (x.2)⟩
noncomputable def K0:aS:=⟨[.int .u64,.str,.int .i64,.li .i64],[.st .dS,.int .i64],some fun x=>DK (x.1) (x.2.1) (x.2.2.1) (x.2.2.2),fun x=>wY (x.1) (x.2.1) (x.2.2.1) (x.2.2.2)⟩
noncomputable def K1:aS:=⟨[.li .br,.str],[.int .i64],none,fun x=>qa (x.1) (x.2)⟩
noncomputable def K2:aS:=⟨[.st .df],[.bool],none,fun x=>IS x⟩
noncomputable def K3:aS:=⟨[.li .df],[.int .i64],none,fun x=>uH x⟩
noncomputable def K4:aS:=⟨[.st .Home,.str],[.bool],some fun x=>Ix (x.1) (x.2),fun x=>Ag (x.1) (x.2)⟩
noncomputable def K5:aS:=⟨[.st .Home,.st .br],[.int .i64],some fun x=>Ak (x.1) (x.2),fun x=>m3 (x.1) (x.2)⟩
noncomputable def K6:aS:=⟨[.st .Home,.li .br],[.int .i64],some fun x=>DJ (x.1) (x.2),fun x=>uI (x.1) (x.2)⟩
noncomputable def K7:aS:=⟨[.int .i64],[.int .i64],none,fun x=>DF x⟩
noncomputable def K8:aS:=⟨[.li .df,.int .i64],[.bool],none,fun x=>uF (x.1) (x.2)⟩
noncomputable def K9:aS:=⟨[.st .Home,.int .i64],[.str],some fun x=>Iy (x.1) (x.2),fun x=>Aa (x.1) (x.2)⟩
noncomputable def La:aS:=⟨[.st .Home,.st .br,.int .i64],[.bool],some fun x=>DI (x.1) (x.2.1) (x.2.2),fun x=>w1 (x.1) (x.2.1) (x.2.2)⟩
noncomputable def Lb:aS:=⟨[.st .Home,.st .cd],[.bool],some fun x=>DH (x.1) (x.2),fun x=>w0 (x.1) (x.2)⟩
noncomputable def Lc:aS:=⟨[.st .Home,.int .i64],[.li .cd],some fun x=>Iz (x.1) (x.2),fun x=>Ab (x.1) (x.2)⟩
noncomputable def Ld:aS:=⟨[.st .Home,.st .bQ],[.bool],some fun x=>Aj (x.1) (x.2),fun x=>DE (x.1) (x.2)⟩
noncomputable def Le:aS:=⟨[.st .Home,.li .br,.str,.int .i64,.st .bQ],[.int .i64],some fun x=>IA (x.1) (x.2.1) (x.2.2.1) (x.2.2.2.1) (x.2.2.2.2),fun x=>uJ (x.1) (x.2.1) (x.2.2.1) (x.2.2.2.1) (x.2.2.2.2)⟩
noncomputable def Lf:aS:=⟨[.st .cv,.int .i64],[.bool],some fun x=>wZ (x.1) (x.2),fun x=>lH (x.1) (x.2)⟩
noncomputable def Lg:aS:=⟨[.st .cv],[.int .i64],some fun x=>DB x,fun x=>sL x⟩
noncomputable def Lh:aS:=⟨[.st .cv,.int .i64],[.st .cv,.bool],some fun x=>Ip (x.1) (x.2),fun x=>uD (x.1) (x.2)⟩
noncomputable def Li:aS:=⟨[.li .aX,.str,.st .cv],[.li .aX],some fun x=>Ir (x.1) (x.2.1) (x.2.2),fun x=>z8 (x.1) (x.2.1) (x.2.2)⟩
noncomputable def Lj:aS:=⟨[.st .Config,.li .br,.li .aX,.li .i64,.st .gl,.int .i64,.int .i64],[.str,.li .aX,.int .i64],some fun x=>IB (x.1) (x.2.1) (x.2.2.1) (x.2.2.2.1) (x.2.2.2.2.1) (x.2.2.2.2.2.1) (x.2.2.2.2.2.2),fun x=>m32 (x.1) (x.2.1) (x.2.2.1) (x.2.2.2.1) (x.2.2.2.2.1) (x.2.2.2.2.2.1) (x.2.2.2.2.2.2)⟩
noncomputable def Lk:aS:=⟨[.li .aX,.li .aX],[.bool],some fun x=>GV (x.1) (x.2),fun x=>yY (x.1) (x.2)⟩
noncomputable def pU:aS:=⟨[.st .Case],[.bool],some fun x=>Qc x,fun x=>Cx x⟩
noncomputable def xc:List aS:=[IT,IU,IV,IW,IX,IY,IZ,I0,I1,I2,I3,I4,I5,I6,I7,I8,I9,Ja,Jb,Jc,Jd,Je,Jf,Jg,Jh,Ji,Jj,Jk,Jl,Jm,Jn,Jo,Jp,Jq,Jr,Js,Jt,Ju,Jv,Jw,Jx,Jy,DL,Jz,JA,JB,JC,JD,JE,JF,JG,JH,JI,JJ,JK,JL,JM,JN,JO,JP,JQ,DM,JR,JS,JT,JU,JV,JW,JX,JY,JZ,J0,J1,J2,J3,J4,J5,J6,J7,J8,J9,Ka,Kb,Kc,Kd,Ke,Kf,Kg,Kh,Ki,Kj,Kk,Kl,Km,Kn,Ko,Kp,Kq,Kr,Ks,Kt,Ku,Kv,Kw,Kx,DN,Ky,Kz,KA,KB,KC,KD,KE,KF,KG,KH,KI,KJ,jm,KK,KL,KM,KN,KO,KP,KQ,KR,KS,KT,KU,KV,KW,KX,KY,KZ,K0,K1,K2,K3,K4,K5,K6,K7,K8,K9,La,Lb,Lc,Ld,Le,Lf,Lg,Lh,Li,Lj,Lk,pU]
def AC:List iD:=[⟨93,0,[.int .i64],[.str],false⟩,⟨94,1,[.str],[.str],false⟩,⟨193,2,[.int .i64],[.bool],true⟩,⟨119,3,[.st .c6],[.int .i64],true⟩,⟨95,4,[.st .c6],[.str],false⟩,⟨28,5,[.st .bQ],[.str],false⟩,⟨152,7,[.str],[.int .u64,.int .i64,.int .i64],false⟩,⟨67,15,[.st .bQ],[.int .i64],true⟩,⟨69,16,[.st .bQ],[.int .i64],true⟩,⟨26,17,[.str],[.st .bQ,.int .i64],false⟩,⟨192,18,[.int .i32],[.bool],true⟩,⟨118,19,[.str],[.bool],false⟩,⟨50,24,[.st .c6],[.int .i64],true⟩,⟨96,26,[.int .i64],[.str],false⟩,⟨97,27,[.str],[.str],false⟩,⟨78,28,[.str],[.bool],false⟩,⟨54,29,[.str],[.str],false⟩,⟨200,30,[.int .i64],[.int .i64],true⟩,⟨199,31,[.int .u8],[.int .i64],false⟩,⟨128,32,[.str],[.str,.int .i64],false⟩,⟨202,33,[.int .u8],[.int .i64],true⟩,⟨132,34,[.str],[.str,.int .i64],false⟩,⟨259,35,[.li .str,.str],[.int .i64],true⟩,⟨237,36,[.li .str,.str],[.bool],true⟩,⟨206,37,[.li .str,.str],[.int .i64],true⟩,⟨280,38,[.li .str],[.int .i64],false⟩,⟨242,39,[.st .Attr],[.int .i64],false⟩,⟨257,40,[.st .aO],[.bool],true⟩,⟨292,41,[.st .Attr],[.bool],true⟩,⟨224,42,[.li .str],[.li .str],false⟩,⟨261,43,[.st .aO,.str],[.st .Attr,.bool],false⟩,⟨208,44,[.st .Attr,.st .c6],[.int .i64],false⟩,⟨316,45,[.li .str,.li .str],[.bool],false⟩,⟨315,46,[.st .Attr,.st .Attr],[.bool],false⟩,⟨311,47,[.st .cX,.st .Attr,.st .Attr],[.bool],false⟩,⟨293,48,[.st .aO,.st .Attr,.st .cX],[.int .i64],false⟩,⟨258,49,[.st .aO,.int .i64],[.int .i64],false⟩,⟨205,50,[.st .aO],[.int .i64],false⟩,⟨136,51,[.li .aO],[.int .i64],false⟩,⟨137,52,[.st .Home],[.mp (.str) (.st .aO)],true⟩,⟨138,53,[.st .bA],[.bool],true⟩,⟨139,54,[.st .bA,.mp (.str) (.st .aO)],[.int .i64],true⟩,⟨65,55,[.st .Home],[.int .i64],false⟩,⟨71,56,[.st .bQ],[.st .bQ],true⟩,⟨260,57,[.st .Home,.int .i64],[.st .bA,.bool],false⟩,⟨207,58,[.st .Home,.st .cd],[.st .Attr,.bool],false⟩,⟨140,59,[.st .Home,.st .bQ],[.int .i64],false⟩,⟨180,60,[.st .Home,.int .i64,.str],[.st .aO,.bool],false⟩,⟨262,61,[.li .cX],[.li .cX],false⟩,⟨209,62,[.st .aO,.str],[.st .Command,.bool],false⟩,⟨141,63,[.st .Home,.st .bQ],[.int .i64],false⟩,⟨73,64,[.st .Home,.st .bQ],[.int .i64],false⟩,⟨23,65,[.st .Home,.st .bQ],[.int .i64],false⟩,⟨247,66,[.li .str,.str],[.bool],true⟩,⟨187,67,[.st .Attr],[.int .i64],false⟩,⟨190,68,[.st .aO,.str],[.int .i64],true⟩,⟨248,69,[.st .aO],[.bool],true⟩,⟨302,70,[.li .str,.li .str],[.bool],false⟩,⟨283,71,[.st .Attr,.st .Attr],[.bool],false⟩,⟨211,72,[.st .aO,.str],[.st .Attr,.bool],false⟩,⟨145,73,[.st .Attr,.st .c6],[.int .i64],false⟩,⟨303,74,[.st .cX,.st .Attr,.st .Attr],[.bool],false⟩,⟨284,75,[.st .aO,.st .Attr,.st .cX],[.int .i64],false⟩,⟨249,76,[.st .aO,.int .i64],[.int .i64],false⟩,⟨189,77,[.st .aO],[.int .i64],false⟩,⟨142,78,[.li .aO],[.int .i64],false⟩,⟨184,79,[.li .str,.str],[.int .i64],true⟩,⟨185,80,[.st .Home,.str],[.int .i64],false⟩,⟨210,81,[.st .Home,.st .bA],[.int .i64],false⟩,⟨143,82,[.st .Home,.int .i64],[.int .i64],false⟩,⟨74,83,[.st .Home],[.int .i64],false⟩,⟨75,84,[.st .bQ],[.bool],true⟩,⟨175,85,[.st .Home,.int .i64],[.int .i64],false⟩,⟨114,86,[.st .Home,.int .i64,.str],[.st .aO,.bool],false⟩,⟨144,87,[.st .Home,.st .cd],[.st .Attr,.bool],false⟩,⟨76,88,[.st .Home,.st .bQ],[.int .i64],false⟩,⟨146,89,[.st .aO,.str],[.st .Command,.bool],true⟩,⟨77,90,[.st .Home,.st .bQ],[.int .i64],false⟩,⟨24,91,[.st .Home,.st .bQ],[.int .i64],false⟩,⟨295,92,[.str],[.int .u64],false⟩,⟨266,93,[.int .u64,.str],[.int .i64],false⟩,⟨217,94,[.int .u64,.str],[.str,.int .i64],false⟩,⟨218,95,[.st .dS],[.int .i64],false⟩,⟨159,96,[.int .u64,.str],[.st .dS,.int .i64],false⟩,⟨219,97,[.li .i64,.int .i64],[.int .i64],true⟩,⟨160,98,[.li .i64,.int .i64],[.bool],true⟩,⟨100,99,[.int .u64,.str,.int .i64,.li .i64],[.st .dS,.int .i64],false⟩,⟨296,100,[.st .df],[.bool],true⟩,⟨268,101,[.li .df],[.int .i64],true⟩,⟨220,102,[.st .Home,.li .br,.int .i64],[.int .i64],false⟩,⟨222,103,[.st .br],[.bool],true⟩,⟨161,104,[.st .Home,.li .br],[.int .i64],false⟩,⟨223,105,[.li .df],[.li .df],false⟩,⟨162,106,[.li .br,.str],[.st .br,.bool],false⟩,⟨272,107,[.st .Home,.int .i64],[.str],false⟩,⟨297,108,[.st .Home,.st .cd],[.bool],false⟩,⟨299,109,[.st .Home,.int .i64],[.li .cd],false⟩,⟨273,110,[.st .Home,.st .bQ],[.bool],false⟩,⟨163,111,[.st .Home,.st .br,.int .i64,.st .bQ],[.int .i64],false⟩,⟨103,112,[.st .Home,.li .br,.str,.int .i64,.st .bQ],[.int .i64],false⟩,⟨104,113,[.li .aX,.str],[.int .i64,.bool],true⟩,⟨105,114,[],[.st .cv],true⟩,⟨167,115,[.st .cv],[.int .i64],false⟩,⟨106,116,[.st .cv,.int .i64],[.st .cv,.bool],false⟩,⟨31,117,[.st .Config,.li .br,.li .aX,.li .i64,.st .gl,.int .i64,.int .i64],[.str,.li .aX,.int .i64],false⟩,⟨147,118,[],[.li .aO],false⟩,⟨79,119,[],[.st .Config,.li .br],false⟩,⟨148,120,[.st .dS],[.int .i64],false⟩,⟨215,121,[.int .i64],[.str],true⟩,⟨263,122,[.str],[.int .u64],false⟩,⟨264,123,[.int .u64],[.str],false⟩,⟨216,124,[.int .u64,.str],[.int .i64],false⟩,⟨149,125,[.int .u64,.str],[.str],false⟩,⟨150,126,[.st .dS],[.str],false⟩,⟨80,127,[.int .u64,.st .dS],[.str,.int .i64],false⟩,⟨25,128,[],[.bool],false⟩,⟨30,129,[.st .Case],[.bool],false⟩,⟨112,130,[],[.st .cv],true⟩,⟨34,131,[.li .aX,.str],[.st .cv],true⟩,⟨229,132,[.int .u64,.str],[.str,.int .i64],false⟩,⟨170,133,[.int .u64,.str],[.st .dS,.int .i64],false⟩,⟨171,134,[.li .i64,.int .i64],[.bool],true⟩,⟨108,135,[.int .u64,.str,.int .i64,.li .i64],[.st .dS,.int .i64],false⟩,⟨173,136,[.li .br,.str],[.int .i64],true⟩,⟨232,137,[.st .df],[.bool],true⟩,⟨275,138,[.li .df],[.int .i64],true⟩,⟨276,139,[.st .Home,.str],[.bool],false⟩,⟨230,140,[.st .Home,.st .br],[.int .i64],false⟩,⟨172,141,[.st .Home,.li .br],[.int .i64],false⟩,⟨231,142,[.int .i64],[.int .i64],true⟩,⟨174,143,[.li .df,.int .i64],[.bool],true⟩,⟨233,144,[.st .Home,.int .i64],[.str],false⟩,⟨176,145,[.st .Home,.st .br,.int .i64],[.bool],false⟩,⟨234,146,[.st .Home,.st .cd],[.bool],false⟩,⟨235,147,[.st .Home,.int .i64],[.li .cd],false⟩,⟨177,148,[.st .Home,.st .bQ],[.bool],false⟩,⟨109,149,[.st .Home,.li .br,.str,.int .i64,.st .bQ],[.int .i64],false⟩,⟨179,150,[.st .cv,.int .i64],[.bool],false⟩,⟨178,151,[.st .cv],[.int .i64],false⟩,⟨110,152,[.st .cv,.int .i64],[.st .cv,.bool],false⟩,⟨111,153,[.li .aX,.str,.st .cv],[.li .aX],false⟩,⟨32,154,[.st .Config,.li .br,.li .aX,.li .i64,.st .gl,.int .i64,.int .i64],[.str,.li .aX,.int .i64],false⟩,⟨33,155,[.li .aX,.li .aX],[.bool],false⟩,⟨8,156,[.st .Case],[.bool],false⟩]
def Ll:List j7:=[⟨151,6,206,.Rd,[],[.int .i64],true⟩,⟨82,8,206,.Rd,[],[.int .i64],false⟩,⟨153,9,206,.Rd,[.int .i64],[.int .i64],false⟩,⟨83,10,206,.Rd,[.int .i64],[.str],false⟩,⟨154,11,206,.Rd,[.int .i64],[],true⟩,⟨84,12,206,.Rd,[],[.st .c6],false⟩,⟨155,13,206,.Rd,[],[.int .i64],true⟩,⟨85,14,206,.Rd,[],[.int .i64],true⟩,⟨156,20,212,.dA,[],[.int .i64],true⟩,⟨89,21,212,.dA,[],[.int .i64],false⟩,⟨157,22,212,.dA,[.int .i64],[.int .i64],false⟩,⟨90,23,212,.dA,[.int .i64],[.str],false⟩,⟨92,25,212,.dA,[],[.int .i64],true⟩]
@[reducible] noncomputable def bf:Program:=Go.Proofs.Tryz.prog
def DZ:List lK:=[⟨99,132,.aX,32⟩,⟨245,25,.c6,32⟩]
def Aq:List lK:=[⟨107,132,.aX,32⟩]
@[reducible] noncomputable def zcN(k j:Nat):Nat→List ab→ar→aC:=DY bf (jM.all bf w5) w5 (60,108,5) DZ Aq (Ll.take j) (AC.take k) 16
structure bB (G:bc) (k j:Nat):Prop where
 z:uS bf G 60 108 5
 r: ∀r∈DZ,nU bf G r
 ii: ∀r∈Aq,uL bf G r
 c:rk bf G xc (AC.take k)
 b:Lm bf G xc (Ll.take j)
theorem Sf{α:Type}{l:List α}{k:Nat}{c:α}(h:l[k]? =some c){d:α}(hd:d∈l.take (k+1)):d∈l.take k∨d=c:=by
 rw[List.take_add_one,h,Option.toList_some,List.mem_append,List.mem_singleton]at hd
 exact hd
section
variable {G:bc}
theorem bB.i{k j:Nat}(h:bB G k j):fT bf G xc (zcN k j):=IL (Z:=(60,108,5)) IF h.r h.ii h.z h.b h.c 16
theorem bB.cs{k j:Nat}(h:bB G k j)(c:iD)(m:aS)(aj:AC[k]? =some c)(hm:e6 aS.d xc c.j=m)(ak:m.ps=c.ps)(ag:m.rs=c.rs)(ao:bE bf G c.f m)(hc:c.eX=true→m.pre=none):bB G (k+1) j:=
 ⟨h.z,h.r,h.ii,fun d hd=>(Sf aj hd).elim (h.c d) (fun e=>e ▸ (by subst hm;exact⟨ak,ag,ao,hc⟩)),h.b⟩
theorem bB.cM{k j:Nat}(h:bB G k j)(c:j7)(m:aS)(aj:Ll[j]? =some c)(hm:e6 aS.d xc c.j=m)(ak:m.ps= .st c.c::c.ps)(ag:m.rs= .st c.c::c.rs)(ao:j8 bf G c.f c.t m)(hc:c.eX=true→m.pre=none):bB G k (j+1):=
 ⟨h.z,h.r,h.ii,h.c,fun d hd=>(Sf aj hd).elim (h.b d) (fun e=>e ▸ (by subst hm;exact⟨ak,ag,ao,hc⟩))⟩
end
end Go.aN
