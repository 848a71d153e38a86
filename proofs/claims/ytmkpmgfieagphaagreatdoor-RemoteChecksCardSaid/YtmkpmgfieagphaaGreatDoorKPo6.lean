/- Contracts. Conditions: none. -/
import Derived.Test.YtmkpmgfieagphaaGreatDoorKPn
open Go Go.aK Go.eK
namespace Go.aK
section
variable {G:a7}
theorem zaX(h:bD G 0 0):bI bh G 93 HM:=cy h.i _ rfl (by kernel_rfl) (fun x=>by kernel_rfl) (fun x=>by kernel_rfl)
theorem zaY(h:bD G 6 1):bI bh G 152 HT:=cy h.i _ rfl (by kernel_rfl) (fun x=>by kernel_rfl) (fun x=>by kernel_rfl)
theorem zaZ(h:bD G 7 7):jj bh G 85 206 H0:=uP h.i _ rfl (by kernel_rfl) (fun x=>by kernel_rfl)
theorem za0(h:bD G 12 9):jj bh G 89 212 H8:=sQ h.i _ rfl (by kernel_rfl) (fun x=>by kernel_rfl) (fun x=>by kernel_rfl)
theorem za1(h:bD G 13 15):bI bh G 27 Ih:=cy h.i _ rfl (by kernel_rfl) (fun x=>by kernel_rfl) (fun x=>by kernel_rfl)
theorem za2(h:bD G 20 15):bI bh G 200 Ip:=gx h.i _ rfl (by kernel_rfl) (fun x=>by kernel_rfl)
theorem za3(h:bD G 27 15):bI bh G 242 Iw:=cy h.i _ rfl (by kernel_rfl) (fun x=>by kernel_rfl) (fun x=>by kernel_rfl)
theorem za4(h:bD G 35 15):bI bh G 311 ID:=cy h.i _ rfl (by kernel_rfl) (fun x=>by kernel_rfl) (fun x=>by kernel_rfl)
theorem za5(h:bD G 42 15):bI bh G 139 IK:=gx h.i _ rfl (by kernel_rfl) (fun x=>by kernel_rfl)
theorem za6(h:bD G 50 15):bI bh G 209 IT:=cy h.i _ rfl (by kernel_rfl) (fun x=>by kernel_rfl) (fun x=>by kernel_rfl)
theorem za7(h:bD G 57 15):bI bh G 248 I0:=gx h.i _ rfl (by kernel_rfl) (fun x=>by kernel_rfl)
theorem za8(h:bD G 64 15):bI bh G 249 I7:=cy h.i _ rfl (by kernel_rfl) (fun x=>by kernel_rfl) (fun x=>by kernel_rfl)
theorem za9(h:bD G 71 15):bI bh G 74 Je:=cy h.i _ rfl (by kernel_rfl) (fun x=>by kernel_rfl) (fun x=>by kernel_rfl)
theorem zba(h:bD G 78 15):bI bh G 77 Jl:=cy h.i _ rfl (by kernel_rfl) (fun x=>by kernel_rfl) (fun x=>by kernel_rfl)
theorem zbb(h:bD G 85 15):bI bh G 219 Js:=gx h.i _ rfl (by kernel_rfl) (fun x=>by kernel_rfl)
theorem zbc(h:bD G 92 15):bI bh G 161 Jz:=cy h.i _ rfl (by kernel_rfl) (fun x=>by kernel_rfl) (fun x=>by kernel_rfl)
theorem zbd(h:bD G 100 15):bI bh G 103 JG:=cy h.i _ rfl (by kernel_rfl) (fun x=>by kernel_rfl) (fun x=>by kernel_rfl)
theorem zbe(h:bD G 108 15):bI bh G 148 JN:=cy h.i _ rfl (by kernel_rfl) (fun x=>by kernel_rfl) (fun x=>by kernel_rfl)
theorem zbf(h:bD G 115 15):bI bh G 80 JU:=cy h.i _ rfl (by kernel_rfl) (fun x=>by kernel_rfl) (fun x=>by kernel_rfl)
end
end Go.aK
open Go Go.aK Go.eK
namespace Go.aK
section
variable {G:a7}
theorem zbg(h:bD G 1 0):bI bh G 94 HN:=cy h.i _ rfl (by kernel_rfl) (fun x=>by kernel_rfl) (fun x=>by kernel_rfl)
theorem zbh(h:bD G 7 1):jj bh G 82 206 HU:=sQ h.i _ rfl (by kernel_rfl) (fun x=>by kernel_rfl) (fun x=>by kernel_rfl)
theorem zbi(h:bD G 7 8):bI bh G 67 H2:=gx h.i _ rfl (by kernel_rfl) (fun x=>by kernel_rfl)
theorem zbj(h:bD G 12 10):jj bh G 157 212 H9:=sQ h.i _ rfl (by kernel_rfl) (fun x=>by kernel_rfl) (fun x=>by kernel_rfl)
theorem zbk(h:bD G 14 15):bI bh G 96 Ii:=cy h.i _ rfl (by kernel_rfl) (fun x=>by kernel_rfl) (fun x=>by kernel_rfl)
theorem zbl(h:bD G 21 15):bI bh G 199 Iq:=cy h.i _ rfl (by kernel_rfl) (fun x=>by kernel_rfl) (fun x=>by kernel_rfl)
theorem zbm(h:bD G 28 15):bI bh G 257 Ix:=gx h.i _ rfl (by kernel_rfl) (fun x=>by kernel_rfl)
theorem zbn(h:bD G 36 15):bI bh G 293 IE:=cy h.i _ rfl (by kernel_rfl) (fun x=>by kernel_rfl) (fun x=>by kernel_rfl)
theorem zbo(h:bD G 43 15):bI bh G 65 IL:=cy h.i _ rfl (by kernel_rfl) (fun x=>by kernel_rfl) (fun x=>by kernel_rfl)
theorem zbp(h:bD G 51 15):bI bh G 141 IU:=cy h.i _ rfl (by kernel_rfl) (fun x=>by kernel_rfl) (fun x=>by kernel_rfl)
theorem zbq(h:bD G 58 15):bI bh G 302 I1:=cy h.i _ rfl (by kernel_rfl) (fun x=>by kernel_rfl) (fun x=>by kernel_rfl)
theorem zbr(h:bD G 65 15):bI bh G 189 I8:=cy h.i _ rfl (by kernel_rfl) (fun x=>by kernel_rfl) (fun x=>by kernel_rfl)
theorem zbs(h:bD G 72 15):bI bh G 75 Jf:=gx h.i _ rfl (by kernel_rfl) (fun x=>by kernel_rfl)
theorem zbt(h:bD G 79 15):bI bh G 24 Jm:=cy h.i _ rfl (by kernel_rfl) (fun x=>by kernel_rfl) (fun x=>by kernel_rfl)
theorem zbu(h:bD G 86 15):bI bh G 160 Jt:=gx h.i _ rfl (by kernel_rfl) (fun x=>by kernel_rfl)
theorem zbv(h:bD G 94 15):bI bh G 162 JA:=cy h.i _ rfl (by kernel_rfl) (fun x=>by kernel_rfl) (fun x=>by kernel_rfl)
theorem zbw(h:bD G 101 15):bI bh G 104 JH:=gx h.i _ rfl (by kernel_rfl) (fun x=>by kernel_rfl)
theorem zbx(h:bD G 109 15):bI bh G 215 JO:=gx h.i _ rfl (by kernel_rfl) (fun x=>by kernel_rfl)
theorem zby(h:bD G 116 15):bI bh G 25 JV:=cy h.i _ rfl (by kernel_rfl) (fun x=>by kernel_rfl) (fun x=>by kernel_rfl)
end
end Go.aK
open Go Go.aK Go.eK
namespace Go.aK
section
variable {G:a7}
theorem zbz(h:bD G 2 0):bI bh G 193 HO:=gx h.i _ rfl (by kernel_rfl) (fun x=>by kernel_rfl)
theorem zbA(h:bD G 7 2):jj bh G 153 206 HV:=sQ h.i _ rfl (by kernel_rfl) (fun x=>by kernel_rfl) (fun x=>by kernel_rfl)
theorem zbB(h:bD G 8 8):bI bh G 69 H3:=gx h.i _ rfl (by kernel_rfl) (fun x=>by kernel_rfl)
theorem zbC(h:bD G 12 11):jj bh G 90 212 Ia:=sQ h.i _ rfl (by kernel_rfl) (fun x=>by kernel_rfl) (fun x=>by kernel_rfl)
theorem zbD(h:bD G 15 15):bI bh G 97 Ij:=cy h.i _ rfl (by kernel_rfl) (fun x=>by kernel_rfl) (fun x=>by kernel_rfl)
theorem zbE(h:bD G 22 15):bI bh G 128 Ir:=cy h.i _ rfl (by kernel_rfl) (fun x=>by kernel_rfl) (fun x=>by kernel_rfl)
theorem zbF(h:bD G 29 15):bI bh G 292 Iy:=gx h.i _ rfl (by kernel_rfl) (fun x=>by kernel_rfl)
theorem zbG(h:bD G 37 15):bI bh G 258 IF:=cy h.i _ rfl (by kernel_rfl) (fun x=>by kernel_rfl) (fun x=>by kernel_rfl)
theorem zbH(h:bD G 44 15):bI bh G 71 IM:=gx h.i _ rfl (by kernel_rfl) (fun x=>by kernel_rfl)
theorem zbI(h:bD G 52 15):bI bh G 73 IV:=cy h.i _ rfl (by kernel_rfl) (fun x=>by kernel_rfl) (fun x=>by kernel_rfl)
theorem zbJ(h:bD G 59 15):bI bh G 283 I2:=cy h.i _ rfl (by kernel_rfl) (fun x=>by kernel_rfl) (fun x=>by kernel_rfl)
theorem zbK(h:bD G 66 15):bI bh G 142 I9:=cy h.i _ rfl (by kernel_rfl) (fun x=>by kernel_rfl) (fun x=>by kernel_rfl)
theorem zbL(h:bD G 73 15):bI bh G 175 Jg:=cy h.i _ rfl (by kernel_rfl) (fun x=>by kernel_rfl) (fun x=>by kernel_rfl)
theorem zbM(h:bD G 80 15):bI bh G 295 Jn:=cy h.i _ rfl (by kernel_rfl) (fun x=>by kernel_rfl) (fun x=>by kernel_rfl)
theorem zbN(h:bD G 87 15):bI bh G 100 Ju:=cy h.i _ rfl (by kernel_rfl) (fun x=>by kernel_rfl) (fun x=>by kernel_rfl)
theorem zbO(h:bD G 95 15):bI bh G 272 JB:=cy h.i _ rfl (by kernel_rfl) (fun x=>by kernel_rfl) (fun x=>by kernel_rfl)
theorem zbP(h:bD G 102 15):bI bh G 105 JI:=gx h.i _ rfl (by kernel_rfl) (fun x=>by kernel_rfl)
theorem zbQ(h:bD G 110 15):bI bh G 263 JP:=cy h.i _ rfl (by kernel_rfl) (fun x=>by kernel_rfl) (fun x=>by kernel_rfl)
theorem zbR(h:bD G 117 15):bI bh G 6 pM:=cy h.i _ rfl (by kernel_rfl) (fun x=>by kernel_rfl) (fun x=>by kernel_rfl)
end
end Go.aK
open Go Go.aK Go.eK
namespace Go.aK
section
variable {G:a7}
theorem zbS(h:bD G 3 0):bI bh G 119 HP:=gx h.i _ rfl (by kernel_rfl) (fun x=>by kernel_rfl)
theorem zbT(h:bD G 7 3):jj bh G 83 206 HW:=sQ h.i _ rfl (by kernel_rfl) (fun x=>by kernel_rfl) (fun x=>by kernel_rfl)
theorem zbU(h:bD G 9 8):bI bh G 26 H4:=cy h.i _ rfl (by kernel_rfl) (fun x=>by kernel_rfl) (fun x=>by kernel_rfl)
theorem zbV(h:bD G 12 12):bI bh G 50 Ib:=gx h.i _ rfl (by kernel_rfl) (fun x=>by kernel_rfl)
theorem zbW(h:bD G 16 15):bI bh G 98 Ik:=cy h.i _ rfl (by kernel_rfl) (fun x=>by kernel_rfl) (fun x=>by kernel_rfl)
theorem zbX(h:bD G 23 15):bI bh G 259 Is:=gx h.i _ rfl (by kernel_rfl) (fun x=>by kernel_rfl)
theorem zbY(h:bD G 31 15):bI bh G 261 Iz:=cy h.i _ rfl (by kernel_rfl) (fun x=>by kernel_rfl) (fun x=>by kernel_rfl)
theorem zbZ(h:bD G 38 15):bI bh G 205 IG:=cy h.i _ rfl (by kernel_rfl) (fun x=>by kernel_rfl) (fun x=>by kernel_rfl)
theorem zb0(h:bD G 45 15):bI bh G 260 IN:=cy h.i _ rfl (by kernel_rfl) (fun x=>by kernel_rfl) (fun x=>by kernel_rfl)
theorem zb1(h:bD G 53 15):bI bh G 23 IW:=cy h.i _ rfl (by kernel_rfl) (fun x=>by kernel_rfl) (fun x=>by kernel_rfl)
theorem zb2(h:bD G 60 15):bI bh G 211 I3:=cy h.i _ rfl (by kernel_rfl) (fun x=>by kernel_rfl) (fun x=>by kernel_rfl)
theorem zb3(h:bD G 67 15):bI bh G 184 Ja:=gx h.i _ rfl (by kernel_rfl) (fun x=>by kernel_rfl)
theorem zb4(h:bD G 74 15):bI bh G 114 Jh:=cy h.i _ rfl (by kernel_rfl) (fun x=>by kernel_rfl) (fun x=>by kernel_rfl)
theorem zb5(h:bD G 81 15):bI bh G 266 Jo:=cy h.i _ rfl (by kernel_rfl) (fun x=>by kernel_rfl) (fun x=>by kernel_rfl)
theorem zb6(h:bD G 88 15):bI bh G 296 Jv:=gx h.i _ rfl (by kernel_rfl) (fun x=>by kernel_rfl)
theorem zb7(h:bD G 96 15):bI bh G 297 JC:=cy h.i _ rfl (by kernel_rfl) (fun x=>by kernel_rfl) (fun x=>by kernel_rfl)
theorem zb8(h:bD G 103 15):bI bh G 167 JJ:=cy h.i _ rfl (by kernel_rfl) (fun x=>by kernel_rfl) (fun x=>by kernel_rfl)
theorem zb9(h:bD G 111 15):bI bh G 264 JQ:=cy h.i _ rfl (by kernel_rfl) (fun x=>by kernel_rfl) (fun x=>by kernel_rfl)
theorem zca(h:bD G 118 15):bI bh G 7 pK:=cy h.i _ rfl (by kernel_rfl) (fun x=>by kernel_rfl) (fun x=>by kernel_rfl)
end
end Go.aK
open Go Go.aK Go.eK
namespace Go.aK
section
variable {G:a7}
theorem zcb(h:bD G 4 0):bI bh G 95 HQ:=cy h.i _ rfl (by kernel_rfl) (fun x=>by kernel_rfl) (fun x=>by kernel_rfl)
theorem zcc(h:bD G 7 4):jj bh G 154 206 HX:=uP h.i _ rfl (by kernel_rfl) (fun x=>by kernel_rfl)
theorem zcd(h:bD G 10 8):bI bh G 192 H5:=gx h.i _ rfl (by kernel_rfl) (fun x=>by kernel_rfl)
theorem zce(h:bD G 13 12):jj bh G 158 212 Ic:=uP h.i _ rfl (by kernel_rfl) (fun x=>by kernel_rfl)
theorem zcf(h:bD G 17 15):bI bh G 29 Il:=cy h.i _ rfl (by kernel_rfl) (fun x=>by kernel_rfl) (fun x=>by kernel_rfl)
theorem zcg(h:bD G 24 15):bI bh G 237 It:=gx h.i _ rfl (by kernel_rfl) (fun x=>by kernel_rfl)
theorem zch(h:bD G 32 15):bI bh G 208 IA:=cy h.i _ rfl (by kernel_rfl) (fun x=>by kernel_rfl) (fun x=>by kernel_rfl)
theorem zci(h:bD G 39 15):bI bh G 136 IH:=cy h.i _ rfl (by kernel_rfl) (fun x=>by kernel_rfl) (fun x=>by kernel_rfl)
theorem zcj(h:bD G 46 15):bI bh G 207 IP:=cy h.i _ rfl (by kernel_rfl) (fun x=>by kernel_rfl) (fun x=>by kernel_rfl)
theorem zck(h:bD G 54 15):bI bh G 247 IX:=gx h.i _ rfl (by kernel_rfl) (fun x=>by kernel_rfl)
theorem zcl(h:bD G 61 15):bI bh G 145 I4:=cy h.i _ rfl (by kernel_rfl) (fun x=>by kernel_rfl) (fun x=>by kernel_rfl)
theorem zcm(h:bD G 68 15):bI bh G 185 Jb:=cy h.i _ rfl (by kernel_rfl) (fun x=>by kernel_rfl) (fun x=>by kernel_rfl)
theorem zcn(h:bD G 75 15):bI bh G 144 Ji:=cy h.i _ rfl (by kernel_rfl) (fun x=>by kernel_rfl) (fun x=>by kernel_rfl)
theorem zco(h:bD G 82 15):bI bh G 217 Jp:=cy h.i _ rfl (by kernel_rfl) (fun x=>by kernel_rfl) (fun x=>by kernel_rfl)
theorem zcp(h:bD G 89 15):bI bh G 268 Jw:=gx h.i _ rfl (by kernel_rfl) (fun x=>by kernel_rfl)
theorem zcq(h:bD G 97 15):bI bh G 299 JD:=cy h.i _ rfl (by kernel_rfl) (fun x=>by kernel_rfl) (fun x=>by kernel_rfl)
theorem zcr(h:bD G 104 15):bI bh G 106 JK:=cy h.i _ rfl (by kernel_rfl) (fun x=>by kernel_rfl) (fun x=>by kernel_rfl)
theorem zcs(h:bD G 112 15):bI bh G 216 JR:=cy h.i _ rfl (by kernel_rfl) (fun x=>by kernel_rfl) (fun x=>by kernel_rfl)
end
end Go.aK
open Go Go.aK Go.eK
namespace Go.aK
section
variable {G:a7}
theorem zct(h:bD G 5 0):bI bh G 28 HR:=cy h.i _ rfl (by kernel_rfl) (fun x=>by kernel_rfl) (fun x=>by kernel_rfl)
theorem zcu(h:bD G 7 5):jj bh G 84 206 HY:=sQ h.i _ rfl (by kernel_rfl) (fun x=>by kernel_rfl) (fun x=>by kernel_rfl)
theorem zcv(h:bD G 11 8):bI bh G 118 H6:=cy h.i _ rfl (by kernel_rfl) (fun x=>by kernel_rfl) (fun x=>by kernel_rfl)
theorem zcw(h:bD G 13 13):jj bh G 91 212 Ie:=sQ h.i _ rfl (by kernel_rfl) (fun x=>by kernel_rfl) (fun x=>by kernel_rfl)
theorem zcx(h:bD G 18 15):bI bh G 78 Im:=cy h.i _ rfl (by kernel_rfl) (fun x=>by kernel_rfl) (fun x=>by kernel_rfl)
theorem zcy(h:bD G 25 15):bI bh G 206 Iu:=gx h.i _ rfl (by kernel_rfl) (fun x=>by kernel_rfl)
theorem zcz(h:bD G 33 15):bI bh G 316 IB:=cy h.i _ rfl (by kernel_rfl) (fun x=>by kernel_rfl) (fun x=>by kernel_rfl)
theorem zcA(h:bD G 40 15):bI bh G 137 II:=gx h.i _ rfl (by kernel_rfl) (fun x=>by kernel_rfl)
theorem zcB(h:bD G 47 15):bI bh G 140 IQ:=cy h.i _ rfl (by kernel_rfl) (fun x=>by kernel_rfl) (fun x=>by kernel_rfl)
theorem zcC(h:bD G 55 15):bI bh G 187 IY:=cy h.i _ rfl (by kernel_rfl) (fun x=>by kernel_rfl) (fun x=>by kernel_rfl)
theorem zcD(h:bD G 62 15):bI bh G 303 I5:=cy h.i _ rfl (by kernel_rfl) (fun x=>by kernel_rfl) (fun x=>by kernel_rfl)
theorem zcE(h:bD G 69 15):bI bh G 210 Jc:=cy h.i _ rfl (by kernel_rfl) (fun x=>by kernel_rfl) (fun x=>by kernel_rfl)
theorem zcF(h:bD G 76 15):bI bh G 76 Jj:=cy h.i _ rfl (by kernel_rfl) (fun x=>by kernel_rfl) (fun x=>by kernel_rfl)
theorem zcG(h:bD G 83 15):bI bh G 218 Jq:=cy h.i _ rfl (by kernel_rfl) (fun x=>by kernel_rfl) (fun x=>by kernel_rfl)
theorem zcH(h:bD G 90 15):bI bh G 220 Jx:=cy h.i _ rfl (by kernel_rfl) (fun x=>by kernel_rfl) (fun x=>by kernel_rfl)
theorem zcI(h:bD G 98 15):bI bh G 273 JE:=cy h.i _ rfl (by kernel_rfl) (fun x=>by kernel_rfl) (fun x=>by kernel_rfl)
theorem zcJ(h:bD G 105 15):bI bh G 31 JL:=cy h.i _ rfl (by kernel_rfl) (fun x=>by kernel_rfl) (fun x=>by kernel_rfl)
theorem zcK(h:bD G 113 15):bI bh G 149 JS:=cy h.i _ rfl (by kernel_rfl) (fun x=>by kernel_rfl) (fun x=>by kernel_rfl)
end
end Go.aK
open Go Go.aK Go.eK
namespace Go.aK
section
variable {G:a7}
theorem zcL(h:bD G 6 0):jj bh G 151 206 HS:=uP h.i _ rfl (by kernel_rfl) (fun x=>by kernel_rfl)
theorem zcM(h:bD G 7 6):jj bh G 155 206 HZ:=uP h.i _ rfl (by kernel_rfl) (fun x=>by kernel_rfl)
theorem zcN(h:bD G 12 8):jj bh G 156 212 H7:=uP h.i _ rfl (by kernel_rfl) (fun x=>by kernel_rfl)
theorem zcO(h:bD G 13 14):jj bh G 92 212 Ig:=uP h.i _ rfl (by kernel_rfl) (fun x=>by kernel_rfl)
theorem zcP(h:bD G 19 15):bI bh G 54 Io:=cy h.i _ rfl (by kernel_rfl) (fun x=>by kernel_rfl) (fun x=>by kernel_rfl)
theorem zcQ(h:bD G 26 15):bI bh G 280 Iv:=cy h.i _ rfl (by kernel_rfl) (fun x=>by kernel_rfl) (fun x=>by kernel_rfl)
theorem zcR(h:bD G 34 15):bI bh G 315 IC:=cy h.i _ rfl (by kernel_rfl) (fun x=>by kernel_rfl) (fun x=>by kernel_rfl)
theorem zcS(h:bD G 41 15):bI bh G 138 IJ:=gx h.i _ rfl (by kernel_rfl) (fun x=>by kernel_rfl)
theorem zcT(h:bD G 48 15):bI bh G 180 IS:=cy h.i _ rfl (by kernel_rfl) (fun x=>by kernel_rfl) (fun x=>by kernel_rfl)
theorem zcU(h:bD G 56 15):bI bh G 190 IZ:=gx h.i _ rfl (by kernel_rfl) (fun x=>by kernel_rfl)
theorem zcV(h:bD G 63 15):bI bh G 284 I6:=cy h.i _ rfl (by kernel_rfl) (fun x=>by kernel_rfl) (fun x=>by kernel_rfl)
theorem zcW(h:bD G 70 15):bI bh G 143 Jd:=cy h.i _ rfl (by kernel_rfl) (fun x=>by kernel_rfl) (fun x=>by kernel_rfl)
theorem zcX(h:bD G 77 15):bI bh G 146 Jk:=gx h.i _ rfl (by kernel_rfl) (fun x=>by kernel_rfl)
theorem zcY(h:bD G 84 15):bI bh G 159 Jr:=cy h.i _ rfl (by kernel_rfl) (fun x=>by kernel_rfl) (fun x=>by kernel_rfl)
theorem zcZ(h:bD G 91 15):bI bh G 222 Jy:=gx h.i _ rfl (by kernel_rfl) (fun x=>by kernel_rfl)
theorem zc0(h:bD G 99 15):bI bh G 163 JF:=cy h.i _ rfl (by kernel_rfl) (fun x=>by kernel_rfl) (fun x=>by kernel_rfl)
theorem zc1(h:bD G 107 15):bI bh G 79 JM:=cy h.i _ rfl (by kernel_rfl) (fun x=>by kernel_rfl) (fun x=>by kernel_rfl)
theorem zc2(h:bD G 114 15):bI bh G 150 JT:=cy h.i _ rfl (by kernel_rfl) (fun x=>by kernel_rfl) (fun x=>by kernel_rfl)
end
end Go.aK
