/- Contracts. Conditions: none. -/
import Derived.Test.YtmkpmgfieagphaaGreatDoorYPn
open Go Go.aO Go.eK
namespace Go.aO
section
variable {G:bd}
theorem zaH(h:bE G 0 0):bG bj G 93 HO:=cn h.i _ rfl (by kernel_rfl) (fun x=>by kernel_rfl) (fun x=>by kernel_rfl)
theorem zaI(h:bE G 6 1):bG bj G 152 HV:=cn h.i _ rfl (by kernel_rfl) (fun x=>by kernel_rfl) (fun x=>by kernel_rfl)
theorem zaJ(h:bE G 7 7):mJ bj G 85 206 H3:=C0 h.i _ rfl (by kernel_rfl) (fun x=>by kernel_rfl)
theorem zaK(h:bE G 13 8):bG bj G 96 Ia:=cn h.i _ rfl (by kernel_rfl) (fun x=>by kernel_rfl) (fun x=>by kernel_rfl)
theorem zaL(h:bE G 20 8):bG bj G 259 Ij:=fR h.i _ rfl (by kernel_rfl) (fun x=>by kernel_rfl)
theorem zaM(h:bE G 28 8):bG bj G 261 Ir:=cn h.i _ rfl (by kernel_rfl) (fun x=>by kernel_rfl) (fun x=>by kernel_rfl)
theorem zaN(h:bE G 35 8):bG bj G 205 Iy:=cn h.i _ rfl (by kernel_rfl) (fun x=>by kernel_rfl) (fun x=>by kernel_rfl)
theorem zaO(h:bE G 42 8):bG bj G 260 IF:=cn h.i _ rfl (by kernel_rfl) (fun x=>by kernel_rfl) (fun x=>by kernel_rfl)
theorem zaP(h:bE G 50 8):bG bj G 23 IM:=cn h.i _ rfl (by kernel_rfl) (fun x=>by kernel_rfl) (fun x=>by kernel_rfl)
theorem zaQ(h:bE G 57 8):bG bj G 211 IV:=cn h.i _ rfl (by kernel_rfl) (fun x=>by kernel_rfl) (fun x=>by kernel_rfl)
theorem zaR(h:bE G 64 8):bG bj G 184 I2:=fR h.i _ rfl (by kernel_rfl) (fun x=>by kernel_rfl)
theorem zaS(h:bE G 71 8):bG bj G 114 I9:=cn h.i _ rfl (by kernel_rfl) (fun x=>by kernel_rfl) (fun x=>by kernel_rfl)
theorem zaT(h:bE G 78 8):bG bj G 266 Jg:=cn h.i _ rfl (by kernel_rfl) (fun x=>by kernel_rfl) (fun x=>by kernel_rfl)
theorem zaU(h:bE G 85 8):bG bj G 296 Jn:=fR h.i _ rfl (by kernel_rfl) (fun x=>by kernel_rfl)
theorem zaV(h:bE G 93 8):bG bj G 297 Ju:=cn h.i _ rfl (by kernel_rfl) (fun x=>by kernel_rfl) (fun x=>by kernel_rfl)
theorem zaW(h:bE G 100 8):bG bj G 167 JB:=cn h.i _ rfl (by kernel_rfl) (fun x=>by kernel_rfl) (fun x=>by kernel_rfl)
theorem zaX(h:bE G 108 8):bG bj G 264 JI:=cn h.i _ rfl (by kernel_rfl) (fun x=>by kernel_rfl) (fun x=>by kernel_rfl)
theorem zaY(h:bE G 115 8):bG bj G 35 JP:=cn h.i _ rfl (by kernel_rfl) (fun x=>by kernel_rfl) (fun x=>by kernel_rfl)
theorem zaZ(h:bE G 122 8):bG bj G 281 JW:=fR h.i _ rfl (by kernel_rfl) (fun x=>by kernel_rfl)
theorem za0(h:bE G 129 8):bG bj G 115 J3:=cn h.i _ rfl (by kernel_rfl) (fun x=>by kernel_rfl) (fun x=>by kernel_rfl)
end
end Go.aO
open Go Go.aO Go.eK
namespace Go.aO
section
variable {G:bd}
theorem za1(h:bE G 1 0):bG bj G 94 HP:=cn h.i _ rfl (by kernel_rfl) (fun x=>by kernel_rfl) (fun x=>by kernel_rfl)
theorem za2(h:bE G 7 1):mJ bj G 82 206 HW:=C1 h.i _ rfl (by kernel_rfl) (fun x=>by kernel_rfl) (fun x=>by kernel_rfl)
theorem za3(h:bE G 7 8):bG bj G 67 H4:=fR h.i _ rfl (by kernel_rfl) (fun x=>by kernel_rfl)
theorem za4(h:bE G 14 8):bG bj G 97 Ib:=cn h.i _ rfl (by kernel_rfl) (fun x=>by kernel_rfl) (fun x=>by kernel_rfl)
theorem za5(h:bE G 21 8):bG bj G 237 Ik:=fR h.i _ rfl (by kernel_rfl) (fun x=>by kernel_rfl)
theorem za6(h:bE G 29 8):bG bj G 208 Is:=cn h.i _ rfl (by kernel_rfl) (fun x=>by kernel_rfl) (fun x=>by kernel_rfl)
theorem za7(h:bE G 36 8):bG bj G 136 Iz:=cn h.i _ rfl (by kernel_rfl) (fun x=>by kernel_rfl) (fun x=>by kernel_rfl)
theorem za8(h:bE G 43 8):bG bj G 207 IG:=cn h.i _ rfl (by kernel_rfl) (fun x=>by kernel_rfl) (fun x=>by kernel_rfl)
theorem za9(h:bE G 51 8):bG bj G 247 IN:=fR h.i _ rfl (by kernel_rfl) (fun x=>by kernel_rfl)
theorem zba(h:bE G 58 8):bG bj G 145 IW:=cn h.i _ rfl (by kernel_rfl) (fun x=>by kernel_rfl) (fun x=>by kernel_rfl)
theorem zbb(h:bE G 65 8):bG bj G 185 I3:=cn h.i _ rfl (by kernel_rfl) (fun x=>by kernel_rfl) (fun x=>by kernel_rfl)
theorem zbc(h:bE G 72 8):bG bj G 144 Ja:=cn h.i _ rfl (by kernel_rfl) (fun x=>by kernel_rfl) (fun x=>by kernel_rfl)
theorem zbd(h:bE G 79 8):bG bj G 217 Jh:=cn h.i _ rfl (by kernel_rfl) (fun x=>by kernel_rfl) (fun x=>by kernel_rfl)
theorem zbe(h:bE G 86 8):bG bj G 268 Jo:=fR h.i _ rfl (by kernel_rfl) (fun x=>by kernel_rfl)
theorem zbf(h:bE G 94 8):bG bj G 299 Jv:=cn h.i _ rfl (by kernel_rfl) (fun x=>by kernel_rfl) (fun x=>by kernel_rfl)
theorem zbg(h:bE G 101 8):bG bj G 106 JC:=cn h.i _ rfl (by kernel_rfl) (fun x=>by kernel_rfl) (fun x=>by kernel_rfl)
theorem zbh(h:bE G 109 8):bG bj G 216 JJ:=cn h.i _ rfl (by kernel_rfl) (fun x=>by kernel_rfl) (fun x=>by kernel_rfl)
theorem zbi(h:bE G 116 8):bG bj G 241 JQ:=fR h.i _ rfl (by kernel_rfl) (fun x=>by kernel_rfl)
theorem zbj(h:bE G 123 8):bG bj G 282 JX:=cn h.i _ rfl (by kernel_rfl) (fun x=>by kernel_rfl) (fun x=>by kernel_rfl)
theorem zbk(h:bE G 130 8):bG bj G 188 J4:=cn h.i _ rfl (by kernel_rfl) (fun x=>by kernel_rfl) (fun x=>by kernel_rfl)
end
end Go.aO
open Go Go.aO Go.eK
namespace Go.aO
section
variable {G:bd}
theorem zbl(h:bE G 2 0):bG bj G 193 HQ:=fR h.i _ rfl (by kernel_rfl) (fun x=>by kernel_rfl)
theorem zbm(h:bE G 7 2):mJ bj G 153 206 HX:=C1 h.i _ rfl (by kernel_rfl) (fun x=>by kernel_rfl) (fun x=>by kernel_rfl)
theorem zbn(h:bE G 8 8):bG bj G 69 H5:=fR h.i _ rfl (by kernel_rfl) (fun x=>by kernel_rfl)
theorem zbo(h:bE G 15 8):bG bj G 78 Ic:=cn h.i _ rfl (by kernel_rfl) (fun x=>by kernel_rfl) (fun x=>by kernel_rfl)
theorem zbp(h:bE G 22 8):bG bj G 206 Il:=fR h.i _ rfl (by kernel_rfl) (fun x=>by kernel_rfl)
theorem zbq(h:bE G 30 8):bG bj G 316 It:=cn h.i _ rfl (by kernel_rfl) (fun x=>by kernel_rfl) (fun x=>by kernel_rfl)
theorem zbr(h:bE G 37 8):bG bj G 137 IA:=fR h.i _ rfl (by kernel_rfl) (fun x=>by kernel_rfl)
theorem zbs(h:bE G 44 8):bG bj G 140 IH:=cn h.i _ rfl (by kernel_rfl) (fun x=>by kernel_rfl) (fun x=>by kernel_rfl)
theorem zbt(h:bE G 52 8):bG bj G 187 IP:=cn h.i _ rfl (by kernel_rfl) (fun x=>by kernel_rfl) (fun x=>by kernel_rfl)
theorem zbu(h:bE G 59 8):bG bj G 303 IX:=cn h.i _ rfl (by kernel_rfl) (fun x=>by kernel_rfl) (fun x=>by kernel_rfl)
theorem zbv(h:bE G 66 8):bG bj G 210 I4:=cn h.i _ rfl (by kernel_rfl) (fun x=>by kernel_rfl) (fun x=>by kernel_rfl)
theorem zbw(h:bE G 73 8):bG bj G 76 Jb:=cn h.i _ rfl (by kernel_rfl) (fun x=>by kernel_rfl) (fun x=>by kernel_rfl)
theorem zbx(h:bE G 80 8):bG bj G 218 Ji:=cn h.i _ rfl (by kernel_rfl) (fun x=>by kernel_rfl) (fun x=>by kernel_rfl)
theorem zby(h:bE G 87 8):bG bj G 220 Jp:=cn h.i _ rfl (by kernel_rfl) (fun x=>by kernel_rfl) (fun x=>by kernel_rfl)
theorem zbz(h:bE G 95 8):bG bj G 273 Jw:=cn h.i _ rfl (by kernel_rfl) (fun x=>by kernel_rfl) (fun x=>by kernel_rfl)
theorem zbA(h:bE G 102 8):bG bj G 31 JD:=cn h.i _ rfl (by kernel_rfl) (fun x=>by kernel_rfl) (fun x=>by kernel_rfl)
theorem zbB(h:bE G 110 8):bG bj G 149 JK:=cn h.i _ rfl (by kernel_rfl) (fun x=>by kernel_rfl) (fun x=>by kernel_rfl)
theorem zbC(h:bE G 117 8):bG bj G 181 JR:=cn h.i _ rfl (by kernel_rfl) (fun x=>by kernel_rfl) (fun x=>by kernel_rfl)
theorem zbD(h:bE G 124 8):bG bj G 246 JY:=cn h.i _ rfl (by kernel_rfl) (fun x=>by kernel_rfl) (fun x=>by kernel_rfl)
theorem zbE(h:bE G 131 8):bG bj G 116 J5:=cn h.i _ rfl (by kernel_rfl) (fun x=>by kernel_rfl) (fun x=>by kernel_rfl)
end
end Go.aO
open Go Go.aO Go.eK
namespace Go.aO
section
variable {G:bd}
theorem zbF(h:bE G 3 0):bG bj G 119 HR:=fR h.i _ rfl (by kernel_rfl) (fun x=>by kernel_rfl)
theorem zbG(h:bE G 7 3):mJ bj G 83 206 HY:=C1 h.i _ rfl (by kernel_rfl) (fun x=>by kernel_rfl) (fun x=>by kernel_rfl)
theorem zbH(h:bE G 9 8):bG bj G 26 H6:=cn h.i _ rfl (by kernel_rfl) (fun x=>by kernel_rfl) (fun x=>by kernel_rfl)
theorem zbI(h:bE G 16 8):bG bj G 54 Ie:=cn h.i _ rfl (by kernel_rfl) (fun x=>by kernel_rfl) (fun x=>by kernel_rfl)
theorem zbJ(h:bE G 23 8):bG bj G 280 Im:=cn h.i _ rfl (by kernel_rfl) (fun x=>by kernel_rfl) (fun x=>by kernel_rfl)
theorem zbK(h:bE G 31 8):bG bj G 315 Iu:=cn h.i _ rfl (by kernel_rfl) (fun x=>by kernel_rfl) (fun x=>by kernel_rfl)
theorem zbL(h:bE G 38 8):bG bj G 138 IB:=fR h.i _ rfl (by kernel_rfl) (fun x=>by kernel_rfl)
theorem zbM(h:bE G 45 8):bG bj G 180 II:=cn h.i _ rfl (by kernel_rfl) (fun x=>by kernel_rfl) (fun x=>by kernel_rfl)
theorem zbN(h:bE G 53 8):bG bj G 190 IQ:=fR h.i _ rfl (by kernel_rfl) (fun x=>by kernel_rfl)
theorem zbO(h:bE G 60 8):bG bj G 284 IY:=cn h.i _ rfl (by kernel_rfl) (fun x=>by kernel_rfl) (fun x=>by kernel_rfl)
theorem zbP(h:bE G 67 8):bG bj G 143 I5:=cn h.i _ rfl (by kernel_rfl) (fun x=>by kernel_rfl) (fun x=>by kernel_rfl)
theorem zbQ(h:bE G 74 8):bG bj G 146 Jc:=fR h.i _ rfl (by kernel_rfl) (fun x=>by kernel_rfl)
theorem zbR(h:bE G 81 8):bG bj G 159 Jj:=cn h.i _ rfl (by kernel_rfl) (fun x=>by kernel_rfl) (fun x=>by kernel_rfl)
theorem zbS(h:bE G 88 8):bG bj G 222 Jq:=fR h.i _ rfl (by kernel_rfl) (fun x=>by kernel_rfl)
theorem zbT(h:bE G 96 8):bG bj G 163 Jx:=cn h.i _ rfl (by kernel_rfl) (fun x=>by kernel_rfl) (fun x=>by kernel_rfl)
theorem zbU(h:bE G 104 8):bG bj G 79 JE:=cn h.i _ rfl (by kernel_rfl) (fun x=>by kernel_rfl) (fun x=>by kernel_rfl)
theorem zbV(h:bE G 111 8):bG bj G 150 JL:=cn h.i _ rfl (by kernel_rfl) (fun x=>by kernel_rfl) (fun x=>by kernel_rfl)
theorem zbW(h:bE G 118 8):bG bj G 243 JS:=fR h.i _ rfl (by kernel_rfl) (fun x=>by kernel_rfl)
theorem zbX(h:bE G 125 8):bG bj G 183 JZ:=cn h.i _ rfl (by kernel_rfl) (fun x=>by kernel_rfl) (fun x=>by kernel_rfl)
theorem zbY(h:bE G 132 8):bG bj G 191 J6:=cn h.i _ rfl (by kernel_rfl) (fun x=>by kernel_rfl) (fun x=>by kernel_rfl)
end
end Go.aO
open Go Go.aO Go.eK
namespace Go.aO
section
variable {G:bd}
theorem zbZ(h:bE G 4 0):bG bj G 95 HS:=cn h.i _ rfl (by kernel_rfl) (fun x=>by kernel_rfl) (fun x=>by kernel_rfl)
theorem zb0(h:bE G 7 4):mJ bj G 154 206 HZ:=C0 h.i _ rfl (by kernel_rfl) (fun x=>by kernel_rfl)
theorem zb1(h:bE G 10 8):bG bj G 192 H7:=fR h.i _ rfl (by kernel_rfl) (fun x=>by kernel_rfl)
theorem zb2(h:bE G 17 8):bG bj G 200 Ig:=fR h.i _ rfl (by kernel_rfl) (fun x=>by kernel_rfl)
theorem zb3(h:bE G 24 8):bG bj G 242 Io:=cn h.i _ rfl (by kernel_rfl) (fun x=>by kernel_rfl) (fun x=>by kernel_rfl)
theorem zb4(h:bE G 32 8):bG bj G 311 Iv:=cn h.i _ rfl (by kernel_rfl) (fun x=>by kernel_rfl) (fun x=>by kernel_rfl)
theorem zb5(h:bE G 39 8):bG bj G 139 IC:=fR h.i _ rfl (by kernel_rfl) (fun x=>by kernel_rfl)
theorem zb6(h:bE G 47 8):bG bj G 209 IJ:=cn h.i _ rfl (by kernel_rfl) (fun x=>by kernel_rfl) (fun x=>by kernel_rfl)
theorem zb7(h:bE G 54 8):bG bj G 248 IS:=fR h.i _ rfl (by kernel_rfl) (fun x=>by kernel_rfl)
theorem zb8(h:bE G 61 8):bG bj G 249 IZ:=cn h.i _ rfl (by kernel_rfl) (fun x=>by kernel_rfl) (fun x=>by kernel_rfl)
theorem zb9(h:bE G 68 8):bG bj G 74 I6:=cn h.i _ rfl (by kernel_rfl) (fun x=>by kernel_rfl) (fun x=>by kernel_rfl)
theorem zca(h:bE G 75 8):bG bj G 77 Jd:=cn h.i _ rfl (by kernel_rfl) (fun x=>by kernel_rfl) (fun x=>by kernel_rfl)
theorem zcb(h:bE G 82 8):bG bj G 219 Jk:=fR h.i _ rfl (by kernel_rfl) (fun x=>by kernel_rfl)
theorem zcc(h:bE G 89 8):bG bj G 161 Jr:=cn h.i _ rfl (by kernel_rfl) (fun x=>by kernel_rfl) (fun x=>by kernel_rfl)
theorem zcd(h:bE G 97 8):bG bj G 103 Jy:=cn h.i _ rfl (by kernel_rfl) (fun x=>by kernel_rfl) (fun x=>by kernel_rfl)
theorem zce(h:bE G 105 8):bG bj G 148 JF:=cn h.i _ rfl (by kernel_rfl) (fun x=>by kernel_rfl) (fun x=>by kernel_rfl)
theorem zcf(h:bE G 112 8):bG bj G 80 JM:=cn h.i _ rfl (by kernel_rfl) (fun x=>by kernel_rfl) (fun x=>by kernel_rfl)
theorem zcg(h:bE G 119 8):bG bj G 182 JT:=cn h.i _ rfl (by kernel_rfl) (fun x=>by kernel_rfl) (fun x=>by kernel_rfl)
theorem zch(h:bE G 126 8):bG bj G 113 J0:=cn h.i _ rfl (by kernel_rfl) (fun x=>by kernel_rfl) (fun x=>by kernel_rfl)
theorem zci(h:bE G 133 8):bG bj G 117 J7:=cn h.i _ rfl (by kernel_rfl) (fun x=>by kernel_rfl) (fun x=>by kernel_rfl)
end
end Go.aO
open Go Go.aO Go.eK
namespace Go.aO
section
variable {G:bd}
theorem zcj(h:bE G 5 0):bG bj G 28 HT:=cn h.i _ rfl (by kernel_rfl) (fun x=>by kernel_rfl) (fun x=>by kernel_rfl)
theorem zck(h:bE G 7 5):mJ bj G 84 206 H0:=C1 h.i _ rfl (by kernel_rfl) (fun x=>by kernel_rfl) (fun x=>by kernel_rfl)
theorem zcl(h:bE G 11 8):bG bj G 118 H8:=cn h.i _ rfl (by kernel_rfl) (fun x=>by kernel_rfl) (fun x=>by kernel_rfl)
theorem zcm(h:bE G 18 8):bG bj G 199 Ih:=cn h.i _ rfl (by kernel_rfl) (fun x=>by kernel_rfl) (fun x=>by kernel_rfl)
theorem zcn(h:bE G 25 8):bG bj G 257 Ip:=fR h.i _ rfl (by kernel_rfl) (fun x=>by kernel_rfl)
theorem zco(h:bE G 33 8):bG bj G 293 Iw:=cn h.i _ rfl (by kernel_rfl) (fun x=>by kernel_rfl) (fun x=>by kernel_rfl)
theorem zcp(h:bE G 40 8):bG bj G 65 ID:=cn h.i _ rfl (by kernel_rfl) (fun x=>by kernel_rfl) (fun x=>by kernel_rfl)
theorem zcq(h:bE G 48 8):bG bj G 141 IK:=cn h.i _ rfl (by kernel_rfl) (fun x=>by kernel_rfl) (fun x=>by kernel_rfl)
theorem zcr(h:bE G 55 8):bG bj G 302 IT:=cn h.i _ rfl (by kernel_rfl) (fun x=>by kernel_rfl) (fun x=>by kernel_rfl)
theorem zcs(h:bE G 62 8):bG bj G 189 I0:=cn h.i _ rfl (by kernel_rfl) (fun x=>by kernel_rfl) (fun x=>by kernel_rfl)
theorem zct(h:bE G 69 8):bG bj G 75 I7:=fR h.i _ rfl (by kernel_rfl) (fun x=>by kernel_rfl)
theorem zcu(h:bE G 76 8):bG bj G 24 Je:=cn h.i _ rfl (by kernel_rfl) (fun x=>by kernel_rfl) (fun x=>by kernel_rfl)
theorem zcv(h:bE G 83 8):bG bj G 160 Jl:=fR h.i _ rfl (by kernel_rfl) (fun x=>by kernel_rfl)
theorem zcw(h:bE G 91 8):bG bj G 162 Js:=cn h.i _ rfl (by kernel_rfl) (fun x=>by kernel_rfl) (fun x=>by kernel_rfl)
theorem zcx(h:bE G 98 8):bG bj G 104 Jz:=fR h.i _ rfl (by kernel_rfl) (fun x=>by kernel_rfl)
theorem zcy(h:bE G 106 8):bG bj G 215 JG:=fR h.i _ rfl (by kernel_rfl) (fun x=>by kernel_rfl)
theorem zcz(h:bE G 113 8):bG bj G 25 JN:=cn h.i _ rfl (by kernel_rfl) (fun x=>by kernel_rfl) (fun x=>by kernel_rfl)
theorem zcA(h:bE G 120 8):bG bj G 244 JU:=cn h.i _ rfl (by kernel_rfl) (fun x=>by kernel_rfl) (fun x=>by kernel_rfl)
theorem zcB(h:bE G 127 8):bG bj G 36 J1:=cn h.i _ rfl (by kernel_rfl) (fun x=>by kernel_rfl) (fun x=>by kernel_rfl)
theorem zcC(h:bE G 134 8):bG bj G 37 J8:=cn h.zaF _ rfl (by kernel_rfl) (fun x=>by kernel_rfl) (fun x=>by kernel_rfl)
end
end Go.aO
open Go Go.aO Go.eK
namespace Go.aO
section
variable {G:bd}
theorem zcD(h:bE G 6 0):mJ bj G 151 206 HU:=C0 h.i _ rfl (by kernel_rfl) (fun x=>by kernel_rfl)
theorem zcE(h:bE G 7 6):mJ bj G 155 206 H2:=C0 h.i _ rfl (by kernel_rfl) (fun x=>by kernel_rfl)
theorem zcF(h:bE G 12 8):bG bj G 50 H9:=fR h.i _ rfl (by kernel_rfl) (fun x=>by kernel_rfl)
theorem zcG(h:bE G 19 8):bG bj G 128 Ii:=cn h.i _ rfl (by kernel_rfl) (fun x=>by kernel_rfl) (fun x=>by kernel_rfl)
theorem zcH(h:bE G 26 8):bG bj G 292 Iq:=fR h.i _ rfl (by kernel_rfl) (fun x=>by kernel_rfl)
theorem zcI(h:bE G 34 8):bG bj G 258 Ix:=cn h.i _ rfl (by kernel_rfl) (fun x=>by kernel_rfl) (fun x=>by kernel_rfl)
theorem zcJ(h:bE G 41 8):bG bj G 71 IE:=fR h.i _ rfl (by kernel_rfl) (fun x=>by kernel_rfl)
theorem zcK(h:bE G 49 8):bG bj G 73 IL:=cn h.i _ rfl (by kernel_rfl) (fun x=>by kernel_rfl) (fun x=>by kernel_rfl)
theorem zcL(h:bE G 56 8):bG bj G 283 IU:=cn h.i _ rfl (by kernel_rfl) (fun x=>by kernel_rfl) (fun x=>by kernel_rfl)
theorem zcM(h:bE G 63 8):bG bj G 142 I1:=cn h.i _ rfl (by kernel_rfl) (fun x=>by kernel_rfl) (fun x=>by kernel_rfl)
theorem zcN(h:bE G 70 8):bG bj G 175 I8:=cn h.i _ rfl (by kernel_rfl) (fun x=>by kernel_rfl) (fun x=>by kernel_rfl)
theorem zcO(h:bE G 77 8):bG bj G 295 Jf:=cn h.i _ rfl (by kernel_rfl) (fun x=>by kernel_rfl) (fun x=>by kernel_rfl)
theorem zcP(h:bE G 84 8):bG bj G 100 Jm:=cn h.i _ rfl (by kernel_rfl) (fun x=>by kernel_rfl) (fun x=>by kernel_rfl)
theorem zcQ(h:bE G 92 8):bG bj G 272 Jt:=cn h.i _ rfl (by kernel_rfl) (fun x=>by kernel_rfl) (fun x=>by kernel_rfl)
theorem zcR(h:bE G 99 8):bG bj G 105 JA:=fR h.i _ rfl (by kernel_rfl) (fun x=>by kernel_rfl)
theorem zcS(h:bE G 107 8):bG bj G 263 JH:=cn h.i _ rfl (by kernel_rfl) (fun x=>by kernel_rfl) (fun x=>by kernel_rfl)
theorem zcT(h:bE G 114 8):bG bj G 30 JO:=cn h.i _ rfl (by kernel_rfl) (fun x=>by kernel_rfl) (fun x=>by kernel_rfl)
theorem zcU(h:bE G 121 8):bG bj G 301 JV:=fR h.i _ rfl (by kernel_rfl) (fun x=>by kernel_rfl)
theorem zcV(h:bE G 128 8):bG bj G 186 J2:=fR h.i _ rfl (by kernel_rfl) (fun x=>by kernel_rfl)
theorem zcW(h:bE G 135 8):bG bj G 12 pr:=cn h.i _ rfl (by kernel_rfl) (fun x=>by kernel_rfl) (fun x=>by kernel_rfl)
end
end Go.aO
