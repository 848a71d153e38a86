/- Contracts. Conditions: none. -/
import Derived.Test.YtmkpmgfieagphaaGreatDoorJPn
open Go Go.aM Go.eQ
namespace Go.aM
section
variable {G:a8}
theorem ZZ(h:bH G 0 0):bG bj G 93 Hn:=cy h.i _ rfl (by kernel_rfl) (fun x=>by kernel_rfl) (fun x=>by kernel_rfl)
theorem Z0(h:bH G 6 1):bG bj G 152 Hu:=cy h.i _ rfl (by kernel_rfl) (fun x=>by kernel_rfl) (fun x=>by kernel_rfl)
theorem Z1(h:bH G 7 7):m3 bj G 85 206 HC:=CS h.i _ rfl (by kernel_rfl) (fun x=>by kernel_rfl)
theorem Z2(h:bH G 13 8):bG bj G 96 HJ:=cy h.i _ rfl (by kernel_rfl) (fun x=>by kernel_rfl) (fun x=>by kernel_rfl)
theorem Z3(h:bH G 20 8):bG bj G 259 HQ:=fZ h.i _ rfl (by kernel_rfl) (fun x=>by kernel_rfl)
theorem Z4(h:bH G 28 8):bG bj G 261 HX:=cy h.i _ rfl (by kernel_rfl) (fun x=>by kernel_rfl) (fun x=>by kernel_rfl)
theorem Z5(h:bH G 35 8):bG bj G 205 H5:=cy h.i _ rfl (by kernel_rfl) (fun x=>by kernel_rfl) (fun x=>by kernel_rfl)
theorem Z6(h:bH G 42 8):bG bj G 260 Ic:=cy h.i _ rfl (by kernel_rfl) (fun x=>by kernel_rfl) (fun x=>by kernel_rfl)
theorem Z7(h:bH G 50 8):bG bj G 23 Il:=cy h.i _ rfl (by kernel_rfl) (fun x=>by kernel_rfl) (fun x=>by kernel_rfl)
theorem Z8(h:bH G 57 8):bG bj G 211 It:=cy h.i _ rfl (by kernel_rfl) (fun x=>by kernel_rfl) (fun x=>by kernel_rfl)
theorem Z9(h:bH G 64 8):bG bj G 184 IA:=fZ h.i _ rfl (by kernel_rfl) (fun x=>by kernel_rfl)
theorem zaa(h:bH G 71 8):bG bj G 114 IH:=cy h.i _ rfl (by kernel_rfl) (fun x=>by kernel_rfl) (fun x=>by kernel_rfl)
theorem zab(h:bH G 78 8):bG bj G 266 IP:=cy h.i _ rfl (by kernel_rfl) (fun x=>by kernel_rfl) (fun x=>by kernel_rfl)
theorem zac(h:bH G 85 8):bG bj G 296 IX:=fZ h.i _ rfl (by kernel_rfl) (fun x=>by kernel_rfl)
theorem zad(h:bH G 93 8):bG bj G 297 I4:=cy h.i _ rfl (by kernel_rfl) (fun x=>by kernel_rfl) (fun x=>by kernel_rfl)
theorem zae(h:bH G 100 8):bG bj G 167 Jb:=cy h.i _ rfl (by kernel_rfl) (fun x=>by kernel_rfl) (fun x=>by kernel_rfl)
theorem zaf(h:bH G 108 8):bG bj G 264 Ji:=cy h.i _ rfl (by kernel_rfl) (fun x=>by kernel_rfl) (fun x=>by kernel_rfl)
theorem zag(h:bH G 115 8):bG bj G 112 Jp:=fZ h.i _ rfl (by kernel_rfl) (fun x=>by kernel_rfl)
end
end Go.aM
open Go Go.aM Go.eQ
namespace Go.aM
section
variable {G:a8}
theorem zah(h:bH G 1 0):bG bj G 94 Ho:=cy h.i _ rfl (by kernel_rfl) (fun x=>by kernel_rfl) (fun x=>by kernel_rfl)
theorem zai(h:bH G 7 1):m3 bj G 82 206 Hv:=CT h.i _ rfl (by kernel_rfl) (fun x=>by kernel_rfl) (fun x=>by kernel_rfl)
theorem zaj(h:bH G 7 8):bG bj G 67 HD:=fZ h.i _ rfl (by kernel_rfl) (fun x=>by kernel_rfl)
theorem zak(h:bH G 14 8):bG bj G 97 HK:=cy h.i _ rfl (by kernel_rfl) (fun x=>by kernel_rfl) (fun x=>by kernel_rfl)
theorem zal(h:bH G 21 8):bG bj G 237 HR:=fZ h.i _ rfl (by kernel_rfl) (fun x=>by kernel_rfl)
theorem zam(h:bH G 29 8):bG bj G 208 HY:=cy h.i _ rfl (by kernel_rfl) (fun x=>by kernel_rfl) (fun x=>by kernel_rfl)
theorem zan(h:bH G 36 8):bG bj G 136 H6:=cy h.i _ rfl (by kernel_rfl) (fun x=>by kernel_rfl) (fun x=>by kernel_rfl)
theorem zao(h:bH G 43 8):bG bj G 207 Ie:=cy h.i _ rfl (by kernel_rfl) (fun x=>by kernel_rfl) (fun x=>by kernel_rfl)
theorem zap(h:bH G 51 8):bG bj G 247 Im:=fZ h.i _ rfl (by kernel_rfl) (fun x=>by kernel_rfl)
theorem zaq(h:bH G 58 8):bG bj G 145 Iu:=cy h.i _ rfl (by kernel_rfl) (fun x=>by kernel_rfl) (fun x=>by kernel_rfl)
theorem zar(h:bH G 65 8):bG bj G 185 IB:=cy h.i _ rfl (by kernel_rfl) (fun x=>by kernel_rfl) (fun x=>by kernel_rfl)
theorem zas(h:bH G 72 8):bG bj G 144 II:=cy h.i _ rfl (by kernel_rfl) (fun x=>by kernel_rfl) (fun x=>by kernel_rfl)
theorem zat(h:bH G 79 8):bG bj G 217 IQ:=cy h.i _ rfl (by kernel_rfl) (fun x=>by kernel_rfl) (fun x=>by kernel_rfl)
theorem zau(h:bH G 86 8):bG bj G 268 IY:=fZ h.i _ rfl (by kernel_rfl) (fun x=>by kernel_rfl)
theorem zav(h:bH G 94 8):bG bj G 299 I5:=cy h.i _ rfl (by kernel_rfl) (fun x=>by kernel_rfl) (fun x=>by kernel_rfl)
theorem zaw(h:bH G 101 8):bG bj G 106 Jc:=cy h.i _ rfl (by kernel_rfl) (fun x=>by kernel_rfl) (fun x=>by kernel_rfl)
theorem zax(h:bH G 109 8):bG bj G 216 Jj:=cy h.i _ rfl (by kernel_rfl) (fun x=>by kernel_rfl) (fun x=>by kernel_rfl)
theorem zay(h:bH G 116 8):bG bj G 34 Jq:=fZ h.i _ rfl (by kernel_rfl) (fun x=>by kernel_rfl)
end
end Go.aM
open Go Go.aM Go.eQ
namespace Go.aM
section
variable {G:a8}
theorem zaz(h:bH G 2 0):bG bj G 193 Hp:=fZ h.i _ rfl (by kernel_rfl) (fun x=>by kernel_rfl)
theorem zaA(h:bH G 7 2):m3 bj G 153 206 Hw:=CT h.i _ rfl (by kernel_rfl) (fun x=>by kernel_rfl) (fun x=>by kernel_rfl)
theorem zaB(h:bH G 8 8):bG bj G 69 HE:=fZ h.i _ rfl (by kernel_rfl) (fun x=>by kernel_rfl)
theorem zaC(h:bH G 15 8):bG bj G 78 HL:=cy h.i _ rfl (by kernel_rfl) (fun x=>by kernel_rfl) (fun x=>by kernel_rfl)
theorem zaD(h:bH G 22 8):bG bj G 206 HS:=fZ h.i _ rfl (by kernel_rfl) (fun x=>by kernel_rfl)
theorem zaE(h:bH G 30 8):bG bj G 316 HZ:=cy h.i _ rfl (by kernel_rfl) (fun x=>by kernel_rfl) (fun x=>by kernel_rfl)
theorem zaF(h:bH G 37 8):bG bj G 137 H7:=fZ h.i _ rfl (by kernel_rfl) (fun x=>by kernel_rfl)
theorem zaG(h:bH G 44 8):bG bj G 140 Ig:=cy h.i _ rfl (by kernel_rfl) (fun x=>by kernel_rfl) (fun x=>by kernel_rfl)
theorem zaH(h:bH G 52 8):bG bj G 187 Io:=cy h.i _ rfl (by kernel_rfl) (fun x=>by kernel_rfl) (fun x=>by kernel_rfl)
theorem zaI(h:bH G 59 8):bG bj G 303 Iv:=cy h.i _ rfl (by kernel_rfl) (fun x=>by kernel_rfl) (fun x=>by kernel_rfl)
theorem zaJ(h:bH G 66 8):bG bj G 210 IC:=cy h.i _ rfl (by kernel_rfl) (fun x=>by kernel_rfl) (fun x=>by kernel_rfl)
theorem zaK(h:bH G 73 8):bG bj G 76 IJ:=cy h.i _ rfl (by kernel_rfl) (fun x=>by kernel_rfl) (fun x=>by kernel_rfl)
theorem zaL(h:bH G 80 8):bG bj G 218 IS:=cy h.i _ rfl (by kernel_rfl) (fun x=>by kernel_rfl) (fun x=>by kernel_rfl)
theorem zaM(h:bH G 87 8):bG bj G 220 IZ:=cy h.i _ rfl (by kernel_rfl) (fun x=>by kernel_rfl) (fun x=>by kernel_rfl)
theorem zaN(h:bH G 95 8):bG bj G 273 I6:=cy h.i _ rfl (by kernel_rfl) (fun x=>by kernel_rfl) (fun x=>by kernel_rfl)
theorem zaO(h:bH G 102 8):bG bj G 31 Jd:=cy h.i _ rfl (by kernel_rfl) (fun x=>by kernel_rfl) (fun x=>by kernel_rfl)
theorem zaP(h:bH G 110 8):bG bj G 149 Jk:=cy h.i _ rfl (by kernel_rfl) (fun x=>by kernel_rfl) (fun x=>by kernel_rfl)
theorem zaQ(h:bH G 117 8):bG bj G 33 Jr:=cy h.i _ rfl (by kernel_rfl) (fun x=>by kernel_rfl) (fun x=>by kernel_rfl)
end
end Go.aM
open Go Go.aM Go.eQ
namespace Go.aM
section
variable {G:a8}
theorem zaR(h:bH G 3 0):bG bj G 119 Hq:=fZ h.i _ rfl (by kernel_rfl) (fun x=>by kernel_rfl)
theorem zaS(h:bH G 7 3):m3 bj G 83 206 Hy:=CT h.i _ rfl (by kernel_rfl) (fun x=>by kernel_rfl) (fun x=>by kernel_rfl)
theorem zaT(h:bH G 9 8):bG bj G 26 HF:=cy h.i _ rfl (by kernel_rfl) (fun x=>by kernel_rfl) (fun x=>by kernel_rfl)
theorem zaU(h:bH G 16 8):bG bj G 54 HM:=cy h.i _ rfl (by kernel_rfl) (fun x=>by kernel_rfl) (fun x=>by kernel_rfl)
theorem zaV(h:bH G 23 8):bG bj G 280 HT:=cy h.i _ rfl (by kernel_rfl) (fun x=>by kernel_rfl) (fun x=>by kernel_rfl)
theorem zaW(h:bH G 31 8):bG bj G 315 H0:=cy h.i _ rfl (by kernel_rfl) (fun x=>by kernel_rfl) (fun x=>by kernel_rfl)
theorem zaX(h:bH G 38 8):bG bj G 138 H8:=fZ h.i _ rfl (by kernel_rfl) (fun x=>by kernel_rfl)
theorem zaY(h:bH G 45 8):bG bj G 180 Ih:=cy h.i _ rfl (by kernel_rfl) (fun x=>by kernel_rfl) (fun x=>by kernel_rfl)
theorem zaZ(h:bH G 53 8):bG bj G 190 Ip:=fZ h.i _ rfl (by kernel_rfl) (fun x=>by kernel_rfl)
theorem za0(h:bH G 60 8):bG bj G 284 Iw:=cy h.i _ rfl (by kernel_rfl) (fun x=>by kernel_rfl) (fun x=>by kernel_rfl)
theorem za1(h:bH G 67 8):bG bj G 143 ID:=cy h.i _ rfl (by kernel_rfl) (fun x=>by kernel_rfl) (fun x=>by kernel_rfl)
theorem za2(h:bH G 74 8):bG bj G 146 IK:=fZ h.i _ rfl (by kernel_rfl) (fun x=>by kernel_rfl)
theorem za3(h:bH G 81 8):bG bj G 159 IT:=cy h.i _ rfl (by kernel_rfl) (fun x=>by kernel_rfl) (fun x=>by kernel_rfl)
theorem za4(h:bH G 88 8):bG bj G 222 I0:=fZ h.i _ rfl (by kernel_rfl) (fun x=>by kernel_rfl)
theorem za5(h:bH G 96 8):bG bj G 163 I7:=cy h.i _ rfl (by kernel_rfl) (fun x=>by kernel_rfl) (fun x=>by kernel_rfl)
theorem za6(h:bH G 104 8):bG bj G 79 Je:=cy h.i _ rfl (by kernel_rfl) (fun x=>by kernel_rfl) (fun x=>by kernel_rfl)
theorem za7(h:bH G 111 8):bG bj G 150 Jl:=cy h.i _ rfl (by kernel_rfl) (fun x=>by kernel_rfl) (fun x=>by kernel_rfl)
theorem za8(h:bH G 118 8):bG bj G 9 pN:=cy h.i _ rfl (by kernel_rfl) (fun x=>by kernel_rfl) (fun x=>by kernel_rfl)
end
end Go.aM
open Go Go.aM Go.eQ
namespace Go.aM
section
variable {G:a8}
theorem za9(h:bH G 4 0):bG bj G 95 Hr:=cy h.i _ rfl (by kernel_rfl) (fun x=>by kernel_rfl) (fun x=>by kernel_rfl)
theorem zba(h:bH G 7 4):m3 bj G 154 206 Hz:=CS h.i _ rfl (by kernel_rfl) (fun x=>by kernel_rfl)
theorem zbb(h:bH G 10 8):bG bj G 192 HG:=fZ h.i _ rfl (by kernel_rfl) (fun x=>by kernel_rfl)
theorem zbc(h:bH G 17 8):bG bj G 200 HN:=fZ h.i _ rfl (by kernel_rfl) (fun x=>by kernel_rfl)
theorem zbd(h:bH G 24 8):bG bj G 242 HU:=cy h.i _ rfl (by kernel_rfl) (fun x=>by kernel_rfl) (fun x=>by kernel_rfl)
theorem zbe(h:bH G 32 8):bG bj G 311 H2:=cy h.i _ rfl (by kernel_rfl) (fun x=>by kernel_rfl) (fun x=>by kernel_rfl)
theorem zbf(h:bH G 39 8):bG bj G 139 H9:=fZ h.i _ rfl (by kernel_rfl) (fun x=>by kernel_rfl)
theorem zbg(h:bH G 47 8):bG bj G 209 Ii:=cy h.i _ rfl (by kernel_rfl) (fun x=>by kernel_rfl) (fun x=>by kernel_rfl)
theorem zbh(h:bH G 54 8):bG bj G 248 Iq:=fZ h.i _ rfl (by kernel_rfl) (fun x=>by kernel_rfl)
theorem zbi(h:bH G 61 8):bG bj G 249 Ix:=cy h.i _ rfl (by kernel_rfl) (fun x=>by kernel_rfl) (fun x=>by kernel_rfl)
theorem zbj(h:bH G 68 8):bG bj G 74 IE:=cy h.i _ rfl (by kernel_rfl) (fun x=>by kernel_rfl) (fun x=>by kernel_rfl)
theorem zbk(h:bH G 75 8):bG bj G 77 IL:=cy h.i _ rfl (by kernel_rfl) (fun x=>by kernel_rfl) (fun x=>by kernel_rfl)
theorem zbl(h:bH G 82 8):bG bj G 219 IU:=fZ h.i _ rfl (by kernel_rfl) (fun x=>by kernel_rfl)
theorem zbm(h:bH G 89 8):bG bj G 161 I1:=cy h.i _ rfl (by kernel_rfl) (fun x=>by kernel_rfl) (fun x=>by kernel_rfl)
theorem zbn(h:bH G 97 8):bG bj G 103 I8:=cy h.i _ rfl (by kernel_rfl) (fun x=>by kernel_rfl) (fun x=>by kernel_rfl)
theorem zbo(h:bH G 105 8):bG bj G 148 Jf:=cy h.i _ rfl (by kernel_rfl) (fun x=>by kernel_rfl) (fun x=>by kernel_rfl)
theorem zbp(h:bH G 112 8):bG bj G 80 Jm:=cy h.i _ rfl (by kernel_rfl) (fun x=>by kernel_rfl) (fun x=>by kernel_rfl)
theorem zbq(h:bH G 119 8):bG bj G 10 Js:=cy h.i _ rfl (by kernel_rfl) (fun x=>by kernel_rfl) (fun x=>by kernel_rfl)
end
end Go.aM
open Go Go.aM Go.eQ
namespace Go.aM
section
variable {G:a8}
theorem zbr(h:bH G 5 0):bG bj G 28 Hs:=cy h.i _ rfl (by kernel_rfl) (fun x=>by kernel_rfl) (fun x=>by kernel_rfl)
theorem zbs(h:bH G 7 5):m3 bj G 84 206 HA:=CT h.i _ rfl (by kernel_rfl) (fun x=>by kernel_rfl) (fun x=>by kernel_rfl)
theorem zbt(h:bH G 11 8):bG bj G 118 HH:=cy h.i _ rfl (by kernel_rfl) (fun x=>by kernel_rfl) (fun x=>by kernel_rfl)
theorem zbu(h:bH G 18 8):bG bj G 199 HO:=cy h.i _ rfl (by kernel_rfl) (fun x=>by kernel_rfl) (fun x=>by kernel_rfl)
theorem zbv(h:bH G 25 8):bG bj G 257 HV:=fZ h.i _ rfl (by kernel_rfl) (fun x=>by kernel_rfl)
theorem zbw(h:bH G 33 8):bG bj G 293 H3:=cy h.i _ rfl (by kernel_rfl) (fun x=>by kernel_rfl) (fun x=>by kernel_rfl)
theorem zbx(h:bH G 40 8):bG bj G 65 Ia:=cy h.i _ rfl (by kernel_rfl) (fun x=>by kernel_rfl) (fun x=>by kernel_rfl)
theorem zby(h:bH G 48 8):bG bj G 141 Ij:=cy h.i _ rfl (by kernel_rfl) (fun x=>by kernel_rfl) (fun x=>by kernel_rfl)
theorem zbz(h:bH G 55 8):bG bj G 302 Ir:=cy h.i _ rfl (by kernel_rfl) (fun x=>by kernel_rfl) (fun x=>by kernel_rfl)
theorem zbA(h:bH G 62 8):bG bj G 189 Iy:=cy h.i _ rfl (by kernel_rfl) (fun x=>by kernel_rfl) (fun x=>by kernel_rfl)
theorem zbB(h:bH G 69 8):bG bj G 75 IF:=fZ h.i _ rfl (by kernel_rfl) (fun x=>by kernel_rfl)
theorem zbC(h:bH G 76 8):bG bj G 24 IM:=cy h.i _ rfl (by kernel_rfl) (fun x=>by kernel_rfl) (fun x=>by kernel_rfl)
theorem zbD(h:bH G 83 8):bG bj G 160 IV:=fZ h.i _ rfl (by kernel_rfl) (fun x=>by kernel_rfl)
theorem zbE(h:bH G 91 8):bG bj G 162 I2:=cy h.i _ rfl (by kernel_rfl) (fun x=>by kernel_rfl) (fun x=>by kernel_rfl)
theorem zbF(h:bH G 98 8):bG bj G 104 I9:=fZ h.i _ rfl (by kernel_rfl) (fun x=>by kernel_rfl)
theorem zbG(h:bH G 106 8):bG bj G 215 Jg:=fZ h.i _ rfl (by kernel_rfl) (fun x=>by kernel_rfl)
theorem zbH(h:bH G 113 8):bG bj G 25 Jn:=cy h.i _ rfl (by kernel_rfl) (fun x=>by kernel_rfl) (fun x=>by kernel_rfl)
theorem zbI(h:bH G 120 8):bG bj G 11 Jt:=cy h.i _ rfl (by kernel_rfl) (fun x=>by kernel_rfl) (fun x=>by kernel_rfl)
end
end Go.aM
open Go Go.aM Go.eQ
namespace Go.aM
section
variable {G:a8}
theorem zbJ(h:bH G 6 0):m3 bj G 151 206 Ht:=CS h.i _ rfl (by kernel_rfl) (fun x=>by kernel_rfl)
theorem zbK(h:bH G 7 6):m3 bj G 155 206 HB:=CS h.i _ rfl (by kernel_rfl) (fun x=>by kernel_rfl)
theorem zbL(h:bH G 12 8):bG bj G 50 HI:=fZ h.i _ rfl (by kernel_rfl) (fun x=>by kernel_rfl)
theorem zbM(h:bH G 19 8):bG bj G 128 HP:=cy h.i _ rfl (by kernel_rfl) (fun x=>by kernel_rfl) (fun x=>by kernel_rfl)
theorem zbN(h:bH G 26 8):bG bj G 292 HW:=fZ h.i _ rfl (by kernel_rfl) (fun x=>by kernel_rfl)
theorem zbO(h:bH G 34 8):bG bj G 258 H4:=cy h.i _ rfl (by kernel_rfl) (fun x=>by kernel_rfl) (fun x=>by kernel_rfl)
theorem zbP(h:bH G 41 8):bG bj G 71 Ib:=fZ h.i _ rfl (by kernel_rfl) (fun x=>by kernel_rfl)
theorem zbQ(h:bH G 49 8):bG bj G 73 Ik:=cy h.i _ rfl (by kernel_rfl) (fun x=>by kernel_rfl) (fun x=>by kernel_rfl)
theorem zbR(h:bH G 56 8):bG bj G 283 Is:=cy h.i _ rfl (by kernel_rfl) (fun x=>by kernel_rfl) (fun x=>by kernel_rfl)
theorem zbS(h:bH G 63 8):bG bj G 142 Iz:=cy h.i _ rfl (by kernel_rfl) (fun x=>by kernel_rfl) (fun x=>by kernel_rfl)
theorem zbT(h:bH G 70 8):bG bj G 175 IG:=cy h.i _ rfl (by kernel_rfl) (fun x=>by kernel_rfl) (fun x=>by kernel_rfl)
theorem zbU(h:bH G 77 8):bG bj G 295 IN:=cy h.i _ rfl (by kernel_rfl) (fun x=>by kernel_rfl) (fun x=>by kernel_rfl)
theorem zbV(h:bH G 84 8):bG bj G 100 IW:=cy h.i _ rfl (by kernel_rfl) (fun x=>by kernel_rfl) (fun x=>by kernel_rfl)
theorem zbW(h:bH G 92 8):bG bj G 272 I3:=cy h.i _ rfl (by kernel_rfl) (fun x=>by kernel_rfl) (fun x=>by kernel_rfl)
theorem zbX(h:bH G 99 8):bG bj G 105 Ja:=fZ h.i _ rfl (by kernel_rfl) (fun x=>by kernel_rfl)
theorem zbY(h:bH G 107 8):bG bj G 263 Jh:=cy h.i _ rfl (by kernel_rfl) (fun x=>by kernel_rfl) (fun x=>by kernel_rfl)
theorem zbZ(h:bH G 114 8):bG bj G 30 Jo:=cy h.i _ rfl (by kernel_rfl) (fun x=>by kernel_rfl) (fun x=>by kernel_rfl)
end
end Go.aM
