/- Contracts. Conditions: none. -/
import Derived.Test.YtmkpmgfieagphaaGreatDoorKPn
open Go Go.aL Go.eL
namespace Go.aL
section
variable {G:a8}
theorem zaX(h:bE G 0 0):bJ bj G 93 HN:=cz h.i _ rfl (by kernel_rfl) (fun x=>by kernel_rfl) (fun x=>by kernel_rfl)
theorem zaY(h:bE G 6 1):bJ bj G 152 HU:=cz h.i _ rfl (by kernel_rfl) (fun x=>by kernel_rfl) (fun x=>by kernel_rfl)
theorem zaZ(h:bE G 7 7):jk bj G 85 206 H2:=uQ h.i _ rfl (by kernel_rfl) (fun x=>by kernel_rfl)
theorem za0(h:bE G 12 9):jk bj G 89 212 H9:=sR h.i _ rfl (by kernel_rfl) (fun x=>by kernel_rfl) (fun x=>by kernel_rfl)
theorem za1(h:bE G 13 15):bJ bj G 27 Ii:=cz h.i _ rfl (by kernel_rfl) (fun x=>by kernel_rfl) (fun x=>by kernel_rfl)
theorem za2(h:bE G 20 15):bJ bj G 200 Iq:=gy h.i _ rfl (by kernel_rfl) (fun x=>by kernel_rfl)
theorem za3(h:bE G 27 15):bJ bj G 242 Ix:=cz h.i _ rfl (by kernel_rfl) (fun x=>by kernel_rfl) (fun x=>by kernel_rfl)
theorem za4(h:bE G 35 15):bJ bj G 311 IE:=cz h.i _ rfl (by kernel_rfl) (fun x=>by kernel_rfl) (fun x=>by kernel_rfl)
theorem za5(h:bE G 42 15):bJ bj G 139 IL:=gy h.i _ rfl (by kernel_rfl) (fun x=>by kernel_rfl)
theorem za6(h:bE G 50 15):bJ bj G 209 IU:=cz h.i _ rfl (by kernel_rfl) (fun x=>by kernel_rfl) (fun x=>by kernel_rfl)
theorem za7(h:bE G 57 15):bJ bj G 248 I1:=gy h.i _ rfl (by kernel_rfl) (fun x=>by kernel_rfl)
theorem za8(h:bE G 64 15):bJ bj G 249 I8:=cz h.i _ rfl (by kernel_rfl) (fun x=>by kernel_rfl) (fun x=>by kernel_rfl)
theorem za9(h:bE G 71 15):bJ bj G 74 Jf:=cz h.i _ rfl (by kernel_rfl) (fun x=>by kernel_rfl) (fun x=>by kernel_rfl)
theorem zba(h:bE G 78 15):bJ bj G 77 Jm:=cz h.i _ rfl (by kernel_rfl) (fun x=>by kernel_rfl) (fun x=>by kernel_rfl)
theorem zbb(h:bE G 85 15):bJ bj G 219 Jt:=gy h.i _ rfl (by kernel_rfl) (fun x=>by kernel_rfl)
theorem zbc(h:bE G 92 15):bJ bj G 161 JA:=cz h.i _ rfl (by kernel_rfl) (fun x=>by kernel_rfl) (fun x=>by kernel_rfl)
theorem zbd(h:bE G 100 15):bJ bj G 103 JH:=cz h.i _ rfl (by kernel_rfl) (fun x=>by kernel_rfl) (fun x=>by kernel_rfl)
theorem zbe(h:bE G 108 15):bJ bj G 148 JO:=cz h.i _ rfl (by kernel_rfl) (fun x=>by kernel_rfl) (fun x=>by kernel_rfl)
theorem zbf(h:bE G 115 15):bJ bj G 80 JV:=cz h.i _ rfl (by kernel_rfl) (fun x=>by kernel_rfl) (fun x=>by kernel_rfl)
end
end Go.aL
open Go Go.aL Go.eL
namespace Go.aL
section
variable {G:a8}
theorem zbg(h:bE G 1 0):bJ bj G 94 HO:=cz h.i _ rfl (by kernel_rfl) (fun x=>by kernel_rfl) (fun x=>by kernel_rfl)
theorem zbh(h:bE G 7 1):jk bj G 82 206 HV:=sR h.i _ rfl (by kernel_rfl) (fun x=>by kernel_rfl) (fun x=>by kernel_rfl)
theorem zbi(h:bE G 7 8):bJ bj G 67 H3:=gy h.i _ rfl (by kernel_rfl) (fun x=>by kernel_rfl)
theorem zbj(h:bE G 12 10):jk bj G 157 212 Ia:=sR h.i _ rfl (by kernel_rfl) (fun x=>by kernel_rfl) (fun x=>by kernel_rfl)
theorem zbk(h:bE G 14 15):bJ bj G 96 Ij:=cz h.i _ rfl (by kernel_rfl) (fun x=>by kernel_rfl) (fun x=>by kernel_rfl)
theorem zbl(h:bE G 21 15):bJ bj G 199 Ir:=cz h.i _ rfl (by kernel_rfl) (fun x=>by kernel_rfl) (fun x=>by kernel_rfl)
theorem zbm(h:bE G 28 15):bJ bj G 257 Iy:=gy h.i _ rfl (by kernel_rfl) (fun x=>by kernel_rfl)
theorem zbn(h:bE G 36 15):bJ bj G 293 IF:=cz h.i _ rfl (by kernel_rfl) (fun x=>by kernel_rfl) (fun x=>by kernel_rfl)
theorem zbo(h:bE G 43 15):bJ bj G 65 IM:=cz h.i _ rfl (by kernel_rfl) (fun x=>by kernel_rfl) (fun x=>by kernel_rfl)
theorem zbp(h:bE G 51 15):bJ bj G 141 IV:=cz h.i _ rfl (by kernel_rfl) (fun x=>by kernel_rfl) (fun x=>by kernel_rfl)
theorem zbq(h:bE G 58 15):bJ bj G 302 I2:=cz h.i _ rfl (by kernel_rfl) (fun x=>by kernel_rfl) (fun x=>by kernel_rfl)
theorem zbr(h:bE G 65 15):bJ bj G 189 I9:=cz h.i _ rfl (by kernel_rfl) (fun x=>by kernel_rfl) (fun x=>by kernel_rfl)
theorem zbs(h:bE G 72 15):bJ bj G 75 Jg:=gy h.i _ rfl (by kernel_rfl) (fun x=>by kernel_rfl)
theorem zbt(h:bE G 79 15):bJ bj G 24 Jn:=cz h.i _ rfl (by kernel_rfl) (fun x=>by kernel_rfl) (fun x=>by kernel_rfl)
theorem zbu(h:bE G 86 15):bJ bj G 160 Ju:=gy h.i _ rfl (by kernel_rfl) (fun x=>by kernel_rfl)
theorem zbv(h:bE G 94 15):bJ bj G 162 JB:=cz h.i _ rfl (by kernel_rfl) (fun x=>by kernel_rfl) (fun x=>by kernel_rfl)
theorem zbw(h:bE G 101 15):bJ bj G 104 JI:=gy h.i _ rfl (by kernel_rfl) (fun x=>by kernel_rfl)
theorem zbx(h:bE G 109 15):bJ bj G 215 JP:=gy h.i _ rfl (by kernel_rfl) (fun x=>by kernel_rfl)
theorem zby(h:bE G 116 15):bJ bj G 25 JW:=cz h.i _ rfl (by kernel_rfl) (fun x=>by kernel_rfl) (fun x=>by kernel_rfl)
end
end Go.aL
open Go Go.aL Go.eL
namespace Go.aL
section
variable {G:a8}
theorem zbz(h:bE G 2 0):bJ bj G 193 HP:=gy h.i _ rfl (by kernel_rfl) (fun x=>by kernel_rfl)
theorem zbA(h:bE G 7 2):jk bj G 153 206 HW:=sR h.i _ rfl (by kernel_rfl) (fun x=>by kernel_rfl) (fun x=>by kernel_rfl)
theorem zbB(h:bE G 8 8):bJ bj G 69 H4:=gy h.i _ rfl (by kernel_rfl) (fun x=>by kernel_rfl)
theorem zbC(h:bE G 12 11):jk bj G 90 212 Ib:=sR h.i _ rfl (by kernel_rfl) (fun x=>by kernel_rfl) (fun x=>by kernel_rfl)
theorem zbD(h:bE G 15 15):bJ bj G 97 Ik:=cz h.i _ rfl (by kernel_rfl) (fun x=>by kernel_rfl) (fun x=>by kernel_rfl)
theorem zbE(h:bE G 22 15):bJ bj G 128 Is:=cz h.i _ rfl (by kernel_rfl) (fun x=>by kernel_rfl) (fun x=>by kernel_rfl)
theorem zbF(h:bE G 29 15):bJ bj G 292 Iz:=gy h.i _ rfl (by kernel_rfl) (fun x=>by kernel_rfl)
theorem zbG(h:bE G 37 15):bJ bj G 258 IG:=cz h.i _ rfl (by kernel_rfl) (fun x=>by kernel_rfl) (fun x=>by kernel_rfl)
theorem zbH(h:bE G 44 15):bJ bj G 71 IN:=gy h.i _ rfl (by kernel_rfl) (fun x=>by kernel_rfl)
theorem zbI(h:bE G 52 15):bJ bj G 73 IW:=cz h.i _ rfl (by kernel_rfl) (fun x=>by kernel_rfl) (fun x=>by kernel_rfl)
theorem zbJ(h:bE G 59 15):bJ bj G 283 I3:=cz h.i _ rfl (by kernel_rfl) (fun x=>by kernel_rfl) (fun x=>by kernel_rfl)
theorem zbK(h:bE G 66 15):bJ bj G 142 Ja:=cz h.i _ rfl (by kernel_rfl) (fun x=>by kernel_rfl) (fun x=>by kernel_rfl)
theorem zbL(h:bE G 73 15):bJ bj G 175 Jh:=cz h.i _ rfl (by kernel_rfl) (fun x=>by kernel_rfl) (fun x=>by kernel_rfl)
theorem zbM(h:bE G 80 15):bJ bj G 295 Jo:=cz h.i _ rfl (by kernel_rfl) (fun x=>by kernel_rfl) (fun x=>by kernel_rfl)
theorem zbN(h:bE G 87 15):bJ bj G 100 Jv:=cz h.i _ rfl (by kernel_rfl) (fun x=>by kernel_rfl) (fun x=>by kernel_rfl)
theorem zbO(h:bE G 95 15):bJ bj G 272 JC:=cz h.i _ rfl (by kernel_rfl) (fun x=>by kernel_rfl) (fun x=>by kernel_rfl)
theorem zbP(h:bE G 102 15):bJ bj G 105 JJ:=gy h.i _ rfl (by kernel_rfl) (fun x=>by kernel_rfl)
theorem zbQ(h:bE G 110 15):bJ bj G 263 JQ:=cz h.i _ rfl (by kernel_rfl) (fun x=>by kernel_rfl) (fun x=>by kernel_rfl)
theorem zbR(h:bE G 117 15):bJ bj G 6 pN:=cz h.i _ rfl (by kernel_rfl) (fun x=>by kernel_rfl) (fun x=>by kernel_rfl)
end
end Go.aL
open Go Go.aL Go.eL
namespace Go.aL
section
variable {G:a8}
theorem zbS(h:bE G 3 0):bJ bj G 119 HQ:=gy h.i _ rfl (by kernel_rfl) (fun x=>by kernel_rfl)
theorem zbT(h:bE G 7 3):jk bj G 83 206 HX:=sR h.i _ rfl (by kernel_rfl) (fun x=>by kernel_rfl) (fun x=>by kernel_rfl)
theorem zbU(h:bE G 9 8):bJ bj G 26 H5:=cz h.i _ rfl (by kernel_rfl) (fun x=>by kernel_rfl) (fun x=>by kernel_rfl)
theorem zbV(h:bE G 12 12):bJ bj G 50 Ic:=gy h.i _ rfl (by kernel_rfl) (fun x=>by kernel_rfl)
theorem zbW(h:bE G 16 15):bJ bj G 98 Il:=cz h.i _ rfl (by kernel_rfl) (fun x=>by kernel_rfl) (fun x=>by kernel_rfl)
theorem zbX(h:bE G 23 15):bJ bj G 259 It:=gy h.i _ rfl (by kernel_rfl) (fun x=>by kernel_rfl)
theorem zbY(h:bE G 31 15):bJ bj G 261 IA:=cz h.i _ rfl (by kernel_rfl) (fun x=>by kernel_rfl) (fun x=>by kernel_rfl)
theorem zbZ(h:bE G 38 15):bJ bj G 205 IH:=cz h.i _ rfl (by kernel_rfl) (fun x=>by kernel_rfl) (fun x=>by kernel_rfl)
theorem zb0(h:bE G 45 15):bJ bj G 260 IP:=cz h.i _ rfl (by kernel_rfl) (fun x=>by kernel_rfl) (fun x=>by kernel_rfl)
theorem zb1(h:bE G 53 15):bJ bj G 23 IX:=cz h.i _ rfl (by kernel_rfl) (fun x=>by kernel_rfl) (fun x=>by kernel_rfl)
theorem zb2(h:bE G 60 15):bJ bj G 211 I4:=cz h.i _ rfl (by kernel_rfl) (fun x=>by kernel_rfl) (fun x=>by kernel_rfl)
theorem zb3(h:bE G 67 15):bJ bj G 184 Jb:=gy h.i _ rfl (by kernel_rfl) (fun x=>by kernel_rfl)
theorem zb4(h:bE G 74 15):bJ bj G 114 Ji:=cz h.i _ rfl (by kernel_rfl) (fun x=>by kernel_rfl) (fun x=>by kernel_rfl)
theorem zb5(h:bE G 81 15):bJ bj G 266 Jp:=cz h.i _ rfl (by kernel_rfl) (fun x=>by kernel_rfl) (fun x=>by kernel_rfl)
theorem zb6(h:bE G 88 15):bJ bj G 296 Jw:=gy h.i _ rfl (by kernel_rfl) (fun x=>by kernel_rfl)
theorem zb7(h:bE G 96 15):bJ bj G 297 JD:=cz h.i _ rfl (by kernel_rfl) (fun x=>by kernel_rfl) (fun x=>by kernel_rfl)
theorem zb8(h:bE G 103 15):bJ bj G 167 JK:=cz h.i _ rfl (by kernel_rfl) (fun x=>by kernel_rfl) (fun x=>by kernel_rfl)
theorem zb9(h:bE G 111 15):bJ bj G 264 JR:=cz h.i _ rfl (by kernel_rfl) (fun x=>by kernel_rfl) (fun x=>by kernel_rfl)
theorem zca(h:bE G 118 15):bJ bj G 7 pL:=cz h.i _ rfl (by kernel_rfl) (fun x=>by kernel_rfl) (fun x=>by kernel_rfl)
end
end Go.aL
open Go Go.aL Go.eL
namespace Go.aL
section
variable {G:a8}
theorem zcb(h:bE G 4 0):bJ bj G 95 HR:=cz h.i _ rfl (by kernel_rfl) (fun x=>by kernel_rfl) (fun x=>by kernel_rfl)
theorem zcc(h:bE G 7 4):jk bj G 154 206 HY:=uQ h.i _ rfl (by kernel_rfl) (fun x=>by kernel_rfl)
theorem zcd(h:bE G 10 8):bJ bj G 192 H6:=gy h.i _ rfl (by kernel_rfl) (fun x=>by kernel_rfl)
theorem zce(h:bE G 13 12):jk bj G 158 212 Ie:=uQ h.i _ rfl (by kernel_rfl) (fun x=>by kernel_rfl)
theorem zcf(h:bE G 17 15):bJ bj G 29 Im:=cz h.i _ rfl (by kernel_rfl) (fun x=>by kernel_rfl) (fun x=>by kernel_rfl)
theorem zcg(h:bE G 24 15):bJ bj G 237 Iu:=gy h.i _ rfl (by kernel_rfl) (fun x=>by kernel_rfl)
theorem zch(h:bE G 32 15):bJ bj G 208 IB:=cz h.i _ rfl (by kernel_rfl) (fun x=>by kernel_rfl) (fun x=>by kernel_rfl)
theorem zci(h:bE G 39 15):bJ bj G 136 II:=cz h.i _ rfl (by kernel_rfl) (fun x=>by kernel_rfl) (fun x=>by kernel_rfl)
theorem zcj(h:bE G 46 15):bJ bj G 207 IQ:=cz h.i _ rfl (by kernel_rfl) (fun x=>by kernel_rfl) (fun x=>by kernel_rfl)
theorem zck(h:bE G 54 15):bJ bj G 247 IY:=gy h.i _ rfl (by kernel_rfl) (fun x=>by kernel_rfl)
theorem zcl(h:bE G 61 15):bJ bj G 145 I5:=cz h.i _ rfl (by kernel_rfl) (fun x=>by kernel_rfl) (fun x=>by kernel_rfl)
theorem zcm(h:bE G 68 15):bJ bj G 185 Jc:=cz h.i _ rfl (by kernel_rfl) (fun x=>by kernel_rfl) (fun x=>by kernel_rfl)
theorem zcn(h:bE G 75 15):bJ bj G 144 Jj:=cz h.i _ rfl (by kernel_rfl) (fun x=>by kernel_rfl) (fun x=>by kernel_rfl)
theorem zco(h:bE G 82 15):bJ bj G 217 Jq:=cz h.i _ rfl (by kernel_rfl) (fun x=>by kernel_rfl) (fun x=>by kernel_rfl)
theorem zcp(h:bE G 89 15):bJ bj G 268 Jx:=gy h.i _ rfl (by kernel_rfl) (fun x=>by kernel_rfl)
theorem zcq(h:bE G 97 15):bJ bj G 299 JE:=cz h.i _ rfl (by kernel_rfl) (fun x=>by kernel_rfl) (fun x=>by kernel_rfl)
theorem zcr(h:bE G 104 15):bJ bj G 106 JL:=cz h.i _ rfl (by kernel_rfl) (fun x=>by kernel_rfl) (fun x=>by kernel_rfl)
theorem zcs(h:bE G 112 15):bJ bj G 216 JS:=cz h.i _ rfl (by kernel_rfl) (fun x=>by kernel_rfl) (fun x=>by kernel_rfl)
end
end Go.aL
open Go Go.aL Go.eL
namespace Go.aL
section
variable {G:a8}
theorem zct(h:bE G 5 0):bJ bj G 28 HS:=cz h.i _ rfl (by kernel_rfl) (fun x=>by kernel_rfl) (fun x=>by kernel_rfl)
theorem zcu(h:bE G 7 5):jk bj G 84 206 HZ:=sR h.i _ rfl (by kernel_rfl) (fun x=>by kernel_rfl) (fun x=>by kernel_rfl)
theorem zcv(h:bE G 11 8):bJ bj G 118 H7:=cz h.i _ rfl (by kernel_rfl) (fun x=>by kernel_rfl) (fun x=>by kernel_rfl)
theorem zcw(h:bE G 13 13):jk bj G 91 212 Ig:=sR h.i _ rfl (by kernel_rfl) (fun x=>by kernel_rfl) (fun x=>by kernel_rfl)
theorem zcx(h:bE G 18 15):bJ bj G 78 Io:=cz h.i _ rfl (by kernel_rfl) (fun x=>by kernel_rfl) (fun x=>by kernel_rfl)
theorem zcy(h:bE G 25 15):bJ bj G 206 Iv:=gy h.i _ rfl (by kernel_rfl) (fun x=>by kernel_rfl)
theorem zcz(h:bE G 33 15):bJ bj G 316 IC:=cz h.i _ rfl (by kernel_rfl) (fun x=>by kernel_rfl) (fun x=>by kernel_rfl)
theorem zcA(h:bE G 40 15):bJ bj G 137 IJ:=gy h.i _ rfl (by kernel_rfl) (fun x=>by kernel_rfl)
theorem zcB(h:bE G 47 15):bJ bj G 140 IS:=cz h.i _ rfl (by kernel_rfl) (fun x=>by kernel_rfl) (fun x=>by kernel_rfl)
theorem zcC(h:bE G 55 15):bJ bj G 187 IZ:=cz h.i _ rfl (by kernel_rfl) (fun x=>by kernel_rfl) (fun x=>by kernel_rfl)
theorem zcD(h:bE G 62 15):bJ bj G 303 I6:=cz h.i _ rfl (by kernel_rfl) (fun x=>by kernel_rfl) (fun x=>by kernel_rfl)
theorem zcE(h:bE G 69 15):bJ bj G 210 Jd:=cz h.i _ rfl (by kernel_rfl) (fun x=>by kernel_rfl) (fun x=>by kernel_rfl)
theorem zcF(h:bE G 76 15):bJ bj G 76 Jk:=cz h.i _ rfl (by kernel_rfl) (fun x=>by kernel_rfl) (fun x=>by kernel_rfl)
theorem zcG(h:bE G 83 15):bJ bj G 218 Jr:=cz h.i _ rfl (by kernel_rfl) (fun x=>by kernel_rfl) (fun x=>by kernel_rfl)
theorem zcH(h:bE G 90 15):bJ bj G 220 Jy:=cz h.i _ rfl (by kernel_rfl) (fun x=>by kernel_rfl) (fun x=>by kernel_rfl)
theorem zcI(h:bE G 98 15):bJ bj G 273 JF:=cz h.i _ rfl (by kernel_rfl) (fun x=>by kernel_rfl) (fun x=>by kernel_rfl)
theorem zcJ(h:bE G 105 15):bJ bj G 31 JM:=cz h.i _ rfl (by kernel_rfl) (fun x=>by kernel_rfl) (fun x=>by kernel_rfl)
theorem zcK(h:bE G 113 15):bJ bj G 149 JT:=cz h.i _ rfl (by kernel_rfl) (fun x=>by kernel_rfl) (fun x=>by kernel_rfl)
end
end Go.aL
open Go Go.aL Go.eL
namespace Go.aL
section
variable {G:a8}
theorem zcL(h:bE G 6 0):jk bj G 151 206 HT:=uQ h.i _ rfl (by kernel_rfl) (fun x=>by kernel_rfl)
theorem zcM(h:bE G 7 6):jk bj G 155 206 H0:=uQ h.i _ rfl (by kernel_rfl) (fun x=>by kernel_rfl)
theorem zcN(h:bE G 12 8):jk bj G 156 212 H8:=uQ h.i _ rfl (by kernel_rfl) (fun x=>by kernel_rfl)
theorem zcO(h:bE G 13 14):jk bj G 92 212 Ih:=uQ h.i _ rfl (by kernel_rfl) (fun x=>by kernel_rfl)
theorem zcP(h:bE G 19 15):bJ bj G 54 Ip:=cz h.i _ rfl (by kernel_rfl) (fun x=>by kernel_rfl) (fun x=>by kernel_rfl)
theorem zcQ(h:bE G 26 15):bJ bj G 280 Iw:=cz h.i _ rfl (by kernel_rfl) (fun x=>by kernel_rfl) (fun x=>by kernel_rfl)
theorem zcR(h:bE G 34 15):bJ bj G 315 ID:=cz h.i _ rfl (by kernel_rfl) (fun x=>by kernel_rfl) (fun x=>by kernel_rfl)
theorem zcS(h:bE G 41 15):bJ bj G 138 IK:=gy h.i _ rfl (by kernel_rfl) (fun x=>by kernel_rfl)
theorem zcT(h:bE G 48 15):bJ bj G 180 IT:=cz h.i _ rfl (by kernel_rfl) (fun x=>by kernel_rfl) (fun x=>by kernel_rfl)
theorem zcU(h:bE G 56 15):bJ bj G 190 I0:=gy h.i _ rfl (by kernel_rfl) (fun x=>by kernel_rfl)
theorem zcV(h:bE G 63 15):bJ bj G 284 I7:=cz h.i _ rfl (by kernel_rfl) (fun x=>by kernel_rfl) (fun x=>by kernel_rfl)
theorem zcW(h:bE G 70 15):bJ bj G 143 Je:=cz h.i _ rfl (by kernel_rfl) (fun x=>by kernel_rfl) (fun x=>by kernel_rfl)
theorem zcX(h:bE G 77 15):bJ bj G 146 Jl:=gy h.i _ rfl (by kernel_rfl) (fun x=>by kernel_rfl)
theorem zcY(h:bE G 84 15):bJ bj G 159 Js:=cz h.i _ rfl (by kernel_rfl) (fun x=>by kernel_rfl) (fun x=>by kernel_rfl)
theorem zcZ(h:bE G 91 15):bJ bj G 222 Jz:=gy h.i _ rfl (by kernel_rfl) (fun x=>by kernel_rfl)
theorem zc0(h:bE G 99 15):bJ bj G 163 JG:=cz h.i _ rfl (by kernel_rfl) (fun x=>by kernel_rfl) (fun x=>by kernel_rfl)
theorem zc1(h:bE G 107 15):bJ bj G 79 JN:=cz h.i _ rfl (by kernel_rfl) (fun x=>by kernel_rfl) (fun x=>by kernel_rfl)
theorem zc2(h:bE G 114 15):bJ bj G 150 JU:=cz h.i _ rfl (by kernel_rfl) (fun x=>by kernel_rfl) (fun x=>by kernel_rfl)
end
end Go.aL
