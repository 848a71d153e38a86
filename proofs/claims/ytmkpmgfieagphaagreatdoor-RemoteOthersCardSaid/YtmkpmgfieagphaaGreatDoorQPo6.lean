/- Contracts. Conditions: none. -/
import Derived.Test.YtmkpmgfieagphaaGreatDoorQPn
open Go Go.aK Go.eO
namespace Go.aK
section
variable {G:a8}
theorem Zx(h:bG G 0 0):bE bj G 93 Gm:=cx h.i _ rfl (by kernel_rfl) (fun x=>by kernel_rfl) (fun x=>by kernel_rfl)
theorem Zy(h:bG G 6 1):bE bj G 152 Gu:=cx h.i _ rfl (by kernel_rfl) (fun x=>by kernel_rfl) (fun x=>by kernel_rfl)
theorem Zz(h:bG G 7 7):my bj G 85 206 GB:=B3 h.i _ rfl (by kernel_rfl) (fun x=>by kernel_rfl)
theorem ZA(h:bG G 13 8):bE bj G 96 GJ:=cx h.i _ rfl (by kernel_rfl) (fun x=>by kernel_rfl) (fun x=>by kernel_rfl)
theorem ZB(h:bG G 20 8):bE bj G 259 GR:=ga h.i _ rfl (by kernel_rfl) (fun x=>by kernel_rfl)
theorem ZC(h:bG G 28 8):bE bj G 261 G1:=cx h.i _ rfl (by kernel_rfl) (fun x=>by kernel_rfl) (fun x=>by kernel_rfl)
theorem ZD(h:bG G 35 8):bE bj G 205 G8:=cx h.i _ rfl (by kernel_rfl) (fun x=>by kernel_rfl) (fun x=>by kernel_rfl)
theorem ZE(h:bG G 42 8):bE bj G 260 Hf:=cx h.i _ rfl (by kernel_rfl) (fun x=>by kernel_rfl) (fun x=>by kernel_rfl)
theorem ZF(h:bG G 50 8):bE bj G 23 Hm:=cx h.i _ rfl (by kernel_rfl) (fun x=>by kernel_rfl) (fun x=>by kernel_rfl)
theorem ZG(h:bG G 57 8):bE bj G 211 Ht:=cx h.i _ rfl (by kernel_rfl) (fun x=>by kernel_rfl) (fun x=>by kernel_rfl)
theorem ZH(h:bG G 64 8):bE bj G 184 HB:=ga h.i _ rfl (by kernel_rfl) (fun x=>by kernel_rfl)
theorem ZI(h:bG G 71 8):bE bj G 114 HI:=cx h.i _ rfl (by kernel_rfl) (fun x=>by kernel_rfl) (fun x=>by kernel_rfl)
theorem ZJ(h:bG G 78 8):bE bj G 266 HP:=cx h.i _ rfl (by kernel_rfl) (fun x=>by kernel_rfl) (fun x=>by kernel_rfl)
theorem ZK(h:bG G 85 8):bE bj G 296 HW:=ga h.i _ rfl (by kernel_rfl) (fun x=>by kernel_rfl)
theorem ZL(h:bG G 93 8):bE bj G 297 H4:=cx h.i _ rfl (by kernel_rfl) (fun x=>by kernel_rfl) (fun x=>by kernel_rfl)
theorem ZM(h:bG G 100 8):bE bj G 167 Ib:=cx h.i _ rfl (by kernel_rfl) (fun x=>by kernel_rfl) (fun x=>by kernel_rfl)
theorem ZN(h:bG G 108 8):bE bj G 264 Ik:=cx h.i _ rfl (by kernel_rfl) (fun x=>by kernel_rfl) (fun x=>by kernel_rfl)
theorem ZO(h:bG G 115 8):bE bj G 112 Is:=ga h.i _ rfl (by kernel_rfl) (fun x=>by kernel_rfl)
end
end Go.aK
open Go Go.aK Go.eO
namespace Go.aK
section
variable {G:a8}
theorem ZP(h:bG G 1 0):bE bj G 94 Gn:=cx h.i _ rfl (by kernel_rfl) (fun x=>by kernel_rfl) (fun x=>by kernel_rfl)
theorem ZQ(h:bG G 7 1):my bj G 82 206 Gv:=B4 h.i _ rfl (by kernel_rfl) (fun x=>by kernel_rfl) (fun x=>by kernel_rfl)
theorem ZR(h:bG G 7 8):bE bj G 67 GC:=ga h.i _ rfl (by kernel_rfl) (fun x=>by kernel_rfl)
theorem ZS(h:bG G 14 8):bE bj G 97 GK:=cx h.i _ rfl (by kernel_rfl) (fun x=>by kernel_rfl) (fun x=>by kernel_rfl)
theorem ZT(h:bG G 21 8):bE bj G 237 GU:=ga h.i _ rfl (by kernel_rfl) (fun x=>by kernel_rfl)
theorem ZU(h:bG G 29 8):bE bj G 208 G2:=cx h.i _ rfl (by kernel_rfl) (fun x=>by kernel_rfl) (fun x=>by kernel_rfl)
theorem ZV(h:bG G 36 8):bE bj G 136 G9:=cx h.i _ rfl (by kernel_rfl) (fun x=>by kernel_rfl) (fun x=>by kernel_rfl)
theorem ZW(h:bG G 43 8):bE bj G 207 Hg:=cx h.i _ rfl (by kernel_rfl) (fun x=>by kernel_rfl) (fun x=>by kernel_rfl)
theorem ZX(h:bG G 51 8):bE bj G 247 Hn:=ga h.i _ rfl (by kernel_rfl) (fun x=>by kernel_rfl)
theorem ZY(h:bG G 58 8):bE bj G 145 Hu:=cx h.i _ rfl (by kernel_rfl) (fun x=>by kernel_rfl) (fun x=>by kernel_rfl)
theorem ZZ(h:bG G 65 8):bE bj G 185 HC:=cx h.i _ rfl (by kernel_rfl) (fun x=>by kernel_rfl) (fun x=>by kernel_rfl)
theorem Z0(h:bG G 72 8):bE bj G 144 HJ:=cx h.i _ rfl (by kernel_rfl) (fun x=>by kernel_rfl) (fun x=>by kernel_rfl)
theorem Z1(h:bG G 79 8):bE bj G 217 HQ:=cx h.i _ rfl (by kernel_rfl) (fun x=>by kernel_rfl) (fun x=>by kernel_rfl)
theorem Z2(h:bG G 86 8):bE bj G 268 HX:=ga h.i _ rfl (by kernel_rfl) (fun x=>by kernel_rfl)
theorem Z3(h:bG G 94 8):bE bj G 299 H5:=cx h.i _ rfl (by kernel_rfl) (fun x=>by kernel_rfl) (fun x=>by kernel_rfl)
theorem Z4(h:bG G 101 8):bE bj G 106 Ic:=cx h.i _ rfl (by kernel_rfl) (fun x=>by kernel_rfl) (fun x=>by kernel_rfl)
theorem Z5(h:bG G 109 8):bE bj G 216 Il:=cx h.i _ rfl (by kernel_rfl) (fun x=>by kernel_rfl) (fun x=>by kernel_rfl)
theorem Z6(h:bG G 116 8):bE bj G 34 It:=ga h.i _ rfl (by kernel_rfl) (fun x=>by kernel_rfl)
end
end Go.aK
open Go Go.aK Go.eO
namespace Go.aK
section
variable {G:a8}
theorem Z7(h:bG G 2 0):bE bj G 193 Gp:=ga h.i _ rfl (by kernel_rfl) (fun x=>by kernel_rfl)
theorem Z8(h:bG G 7 2):my bj G 153 206 Gw:=B4 h.i _ rfl (by kernel_rfl) (fun x=>by kernel_rfl) (fun x=>by kernel_rfl)
theorem Z9(h:bG G 8 8):bE bj G 69 GD:=ga h.i _ rfl (by kernel_rfl) (fun x=>by kernel_rfl)
theorem zaa(h:bG G 15 8):bE bj G 78 GL:=cx h.i _ rfl (by kernel_rfl) (fun x=>by kernel_rfl) (fun x=>by kernel_rfl)
theorem zab(h:bG G 22 8):bE bj G 206 GV:=ga h.i _ rfl (by kernel_rfl) (fun x=>by kernel_rfl)
theorem zac(h:bG G 30 8):bE bj G 316 G3:=cx h.i _ rfl (by kernel_rfl) (fun x=>by kernel_rfl) (fun x=>by kernel_rfl)
theorem zad(h:bG G 37 8):bE bj G 137 Ha:=ga h.i _ rfl (by kernel_rfl) (fun x=>by kernel_rfl)
theorem zae(h:bG G 44 8):bE bj G 140 Hh:=cx h.i _ rfl (by kernel_rfl) (fun x=>by kernel_rfl) (fun x=>by kernel_rfl)
theorem zaf(h:bG G 52 8):bE bj G 187 Ho:=cx h.i _ rfl (by kernel_rfl) (fun x=>by kernel_rfl) (fun x=>by kernel_rfl)
theorem zag(h:bG G 59 8):bE bj G 303 Hv:=cx h.i _ rfl (by kernel_rfl) (fun x=>by kernel_rfl) (fun x=>by kernel_rfl)
theorem zah(h:bG G 66 8):bE bj G 210 HD:=cx h.i _ rfl (by kernel_rfl) (fun x=>by kernel_rfl) (fun x=>by kernel_rfl)
theorem zai(h:bG G 73 8):bE bj G 76 HK:=cx h.i _ rfl (by kernel_rfl) (fun x=>by kernel_rfl) (fun x=>by kernel_rfl)
theorem zaj(h:bG G 80 8):bE bj G 218 HR:=cx h.i _ rfl (by kernel_rfl) (fun x=>by kernel_rfl) (fun x=>by kernel_rfl)
theorem zak(h:bG G 87 8):bE bj G 220 HY:=cx h.i _ rfl (by kernel_rfl) (fun x=>by kernel_rfl) (fun x=>by kernel_rfl)
theorem zal(h:bG G 95 8):bE bj G 273 H6:=cx h.i _ rfl (by kernel_rfl) (fun x=>by kernel_rfl) (fun x=>by kernel_rfl)
theorem zam(h:bG G 102 8):bE bj G 31 Ie:=cx h.i _ rfl (by kernel_rfl) (fun x=>by kernel_rfl) (fun x=>by kernel_rfl)
theorem zan(h:bG G 110 8):bE bj G 149 Im:=cx h.i _ rfl (by kernel_rfl) (fun x=>by kernel_rfl) (fun x=>by kernel_rfl)
theorem zao(h:bG G 117 8):bE bj G 33 Iu:=cx h.i _ rfl (by kernel_rfl) (fun x=>by kernel_rfl) (fun x=>by kernel_rfl)
end
end Go.aK
open Go Go.aK Go.eO
namespace Go.aK
section
variable {G:a8}
theorem zap(h:bG G 3 0):bE bj G 119 Gq:=ga h.i _ rfl (by kernel_rfl) (fun x=>by kernel_rfl)
theorem zaq(h:bG G 7 3):my bj G 83 206 Gx:=B4 h.i _ rfl (by kernel_rfl) (fun x=>by kernel_rfl) (fun x=>by kernel_rfl)
theorem zar(h:bG G 9 8):bE bj G 26 GF:=cx h.i _ rfl (by kernel_rfl) (fun x=>by kernel_rfl) (fun x=>by kernel_rfl)
theorem zas(h:bG G 16 8):bE bj G 54 GM:=cx h.i _ rfl (by kernel_rfl) (fun x=>by kernel_rfl) (fun x=>by kernel_rfl)
theorem zat(h:bG G 23 8):bE bj G 280 GX:=cx h.i _ rfl (by kernel_rfl) (fun x=>by kernel_rfl) (fun x=>by kernel_rfl)
theorem zau(h:bG G 31 8):bE bj G 315 G4:=cx h.i _ rfl (by kernel_rfl) (fun x=>by kernel_rfl) (fun x=>by kernel_rfl)
theorem zav(h:bG G 38 8):bE bj G 138 Hb:=ga h.i _ rfl (by kernel_rfl) (fun x=>by kernel_rfl)
theorem zaw(h:bG G 45 8):bE bj G 180 Hi:=cx h.i _ rfl (by kernel_rfl) (fun x=>by kernel_rfl) (fun x=>by kernel_rfl)
theorem zax(h:bG G 53 8):bE bj G 190 Hp:=ga h.i _ rfl (by kernel_rfl) (fun x=>by kernel_rfl)
theorem zay(h:bG G 60 8):bE bj G 284 Hw:=cx h.i _ rfl (by kernel_rfl) (fun x=>by kernel_rfl) (fun x=>by kernel_rfl)
theorem zaz(h:bG G 67 8):bE bj G 143 HE:=cx h.i _ rfl (by kernel_rfl) (fun x=>by kernel_rfl) (fun x=>by kernel_rfl)
theorem zaA(h:bG G 74 8):bE bj G 146 HL:=ga h.i _ rfl (by kernel_rfl) (fun x=>by kernel_rfl)
theorem zaB(h:bG G 81 8):bE bj G 159 HS:=cx h.i _ rfl (by kernel_rfl) (fun x=>by kernel_rfl) (fun x=>by kernel_rfl)
theorem zaC(h:bG G 88 8):bE bj G 222 HZ:=ga h.i _ rfl (by kernel_rfl) (fun x=>by kernel_rfl)
theorem zaD(h:bG G 96 8):bE bj G 163 H7:=cx h.i _ rfl (by kernel_rfl) (fun x=>by kernel_rfl) (fun x=>by kernel_rfl)
theorem zaE(h:bG G 104 8):bE bj G 79 Ig:=cx h.i _ rfl (by kernel_rfl) (fun x=>by kernel_rfl) (fun x=>by kernel_rfl)
theorem zaF(h:bG G 111 8):bE bj G 150 Io:=cx h.i _ rfl (by kernel_rfl) (fun x=>by kernel_rfl) (fun x=>by kernel_rfl)
theorem zaG(h:bG G 118 8):bE bj G 9 Iv:=cx h.i _ rfl (by kernel_rfl) (fun x=>by kernel_rfl) (fun x=>by kernel_rfl)
end
end Go.aK
open Go Go.aK Go.eO
namespace Go.aK
section
variable {G:a8}
theorem zaH(h:bG G 4 0):bE bj G 95 Gr:=cx h.i _ rfl (by kernel_rfl) (fun x=>by kernel_rfl) (fun x=>by kernel_rfl)
theorem zaI(h:bG G 7 4):my bj G 154 206 Gy:=B3 h.i _ rfl (by kernel_rfl) (fun x=>by kernel_rfl)
theorem zaJ(h:bG G 10 8):bE bj G 192 GG:=ga h.i _ rfl (by kernel_rfl) (fun x=>by kernel_rfl)
theorem zaK(h:bG G 17 8):bE bj G 200 GN:=ga h.i _ rfl (by kernel_rfl) (fun x=>by kernel_rfl)
theorem zaL(h:bG G 24 8):bE bj G 242 GY:=cx h.i _ rfl (by kernel_rfl) (fun x=>by kernel_rfl) (fun x=>by kernel_rfl)
theorem zaM(h:bG G 32 8):bE bj G 311 G5:=cx h.i _ rfl (by kernel_rfl) (fun x=>by kernel_rfl) (fun x=>by kernel_rfl)
theorem zaN(h:bG G 39 8):bE bj G 139 Hc:=ga h.i _ rfl (by kernel_rfl) (fun x=>by kernel_rfl)
theorem zaO(h:bG G 47 8):bE bj G 209 Hj:=cx h.i _ rfl (by kernel_rfl) (fun x=>by kernel_rfl) (fun x=>by kernel_rfl)
theorem zaP(h:bG G 54 8):bE bj G 248 Hq:=ga h.i _ rfl (by kernel_rfl) (fun x=>by kernel_rfl)
theorem zaQ(h:bG G 61 8):bE bj G 249 Hy:=cx h.i _ rfl (by kernel_rfl) (fun x=>by kernel_rfl) (fun x=>by kernel_rfl)
theorem zaR(h:bG G 68 8):bE bj G 74 HF:=cx h.i _ rfl (by kernel_rfl) (fun x=>by kernel_rfl) (fun x=>by kernel_rfl)
theorem zaS(h:bG G 75 8):bE bj G 77 HM:=cx h.i _ rfl (by kernel_rfl) (fun x=>by kernel_rfl) (fun x=>by kernel_rfl)
theorem zaT(h:bG G 82 8):bE bj G 219 HT:=ga h.i _ rfl (by kernel_rfl) (fun x=>by kernel_rfl)
theorem zaU(h:bG G 89 8):bE bj G 161 H0:=cx h.i _ rfl (by kernel_rfl) (fun x=>by kernel_rfl) (fun x=>by kernel_rfl)
theorem zaV(h:bG G 97 8):bE bj G 103 H8:=cx h.i _ rfl (by kernel_rfl) (fun x=>by kernel_rfl) (fun x=>by kernel_rfl)
theorem zaW(h:bG G 105 8):bE bj G 148 Ih:=cx h.i _ rfl (by kernel_rfl) (fun x=>by kernel_rfl) (fun x=>by kernel_rfl)
theorem zaX(h:bG G 112 8):bE bj G 80 Ip:=cx h.i _ rfl (by kernel_rfl) (fun x=>by kernel_rfl) (fun x=>by kernel_rfl)
theorem zaY(h:bG G 119 8):bE bj G 10 pg:=cx h.i _ rfl (by kernel_rfl) (fun x=>by kernel_rfl) (fun x=>by kernel_rfl)
end
end Go.aK
open Go Go.aK Go.eO
namespace Go.aK
section
variable {G:a8}
theorem zaZ(h:bG G 5 0):bE bj G 28 Gs:=cx h.i _ rfl (by kernel_rfl) (fun x=>by kernel_rfl) (fun x=>by kernel_rfl)
theorem za0(h:bG G 7 5):my bj G 84 206 Gz:=B4 h.i _ rfl (by kernel_rfl) (fun x=>by kernel_rfl) (fun x=>by kernel_rfl)
theorem za1(h:bG G 11 8):bE bj G 118 GH:=cx h.i _ rfl (by kernel_rfl) (fun x=>by kernel_rfl) (fun x=>by kernel_rfl)
theorem za2(h:bG G 18 8):bE bj G 199 GO:=cx h.i _ rfl (by kernel_rfl) (fun x=>by kernel_rfl) (fun x=>by kernel_rfl)
theorem za3(h:bG G 25 8):bE bj G 257 GZ:=ga h.i _ rfl (by kernel_rfl) (fun x=>by kernel_rfl)
theorem za4(h:bG G 33 8):bE bj G 293 G6:=cx h.i _ rfl (by kernel_rfl) (fun x=>by kernel_rfl) (fun x=>by kernel_rfl)
theorem za5(h:bG G 40 8):bE bj G 65 Hd:=cx h.i _ rfl (by kernel_rfl) (fun x=>by kernel_rfl) (fun x=>by kernel_rfl)
theorem za6(h:bG G 48 8):bE bj G 141 Hk:=cx h.i _ rfl (by kernel_rfl) (fun x=>by kernel_rfl) (fun x=>by kernel_rfl)
theorem za7(h:bG G 55 8):bE bj G 302 Hr:=cx h.i _ rfl (by kernel_rfl) (fun x=>by kernel_rfl) (fun x=>by kernel_rfl)
theorem za8(h:bG G 62 8):bE bj G 189 Hz:=cx h.i _ rfl (by kernel_rfl) (fun x=>by kernel_rfl) (fun x=>by kernel_rfl)
theorem za9(h:bG G 69 8):bE bj G 75 HG:=ga h.i _ rfl (by kernel_rfl) (fun x=>by kernel_rfl)
theorem zba(h:bG G 76 8):bE bj G 24 HN:=cx h.i _ rfl (by kernel_rfl) (fun x=>by kernel_rfl) (fun x=>by kernel_rfl)
theorem zbb(h:bG G 83 8):bE bj G 160 HU:=ga h.i _ rfl (by kernel_rfl) (fun x=>by kernel_rfl)
theorem zbc(h:bG G 91 8):bE bj G 162 H2:=cx h.i _ rfl (by kernel_rfl) (fun x=>by kernel_rfl) (fun x=>by kernel_rfl)
theorem zbd(h:bG G 98 8):bE bj G 104 H9:=ga h.i _ rfl (by kernel_rfl) (fun x=>by kernel_rfl)
theorem zbe(h:bG G 106 8):bE bj G 215 Ii:=ga h.i _ rfl (by kernel_rfl) (fun x=>by kernel_rfl)
theorem zbf(h:bG G 113 8):bE bj G 25 Iq:=cx h.i _ rfl (by kernel_rfl) (fun x=>by kernel_rfl) (fun x=>by kernel_rfl)
theorem zbg(h:bG G 120 8):bE bj G 11 pj:=cx h.i _ rfl (by kernel_rfl) (fun x=>by kernel_rfl) (fun x=>by kernel_rfl)
end
end Go.aK
open Go Go.aK Go.eO
namespace Go.aK
section
variable {G:a8}
theorem zbh(h:bG G 6 0):my bj G 151 206 Gt:=B3 h.i _ rfl (by kernel_rfl) (fun x=>by kernel_rfl)
theorem zbi(h:bG G 7 6):my bj G 155 206 GA:=B3 h.i _ rfl (by kernel_rfl) (fun x=>by kernel_rfl)
theorem zbj(h:bG G 12 8):bE bj G 50 GI:=ga h.i _ rfl (by kernel_rfl) (fun x=>by kernel_rfl)
theorem zbk(h:bG G 19 8):bE bj G 128 GQ:=cx h.i _ rfl (by kernel_rfl) (fun x=>by kernel_rfl) (fun x=>by kernel_rfl)
theorem zbl(h:bG G 26 8):bE bj G 292 G0:=ga h.i _ rfl (by kernel_rfl) (fun x=>by kernel_rfl)
theorem zbm(h:bG G 34 8):bE bj G 258 G7:=cx h.i _ rfl (by kernel_rfl) (fun x=>by kernel_rfl) (fun x=>by kernel_rfl)
theorem zbn(h:bG G 41 8):bE bj G 71 He:=ga h.i _ rfl (by kernel_rfl) (fun x=>by kernel_rfl)
theorem zbo(h:bG G 49 8):bE bj G 73 Hl:=cx h.i _ rfl (by kernel_rfl) (fun x=>by kernel_rfl) (fun x=>by kernel_rfl)
theorem zbp(h:bG G 56 8):bE bj G 283 Hs:=cx h.i _ rfl (by kernel_rfl) (fun x=>by kernel_rfl) (fun x=>by kernel_rfl)
theorem zbq(h:bG G 63 8):bE bj G 142 HA:=cx h.i _ rfl (by kernel_rfl) (fun x=>by kernel_rfl) (fun x=>by kernel_rfl)
theorem zbr(h:bG G 70 8):bE bj G 175 HH:=cx h.i _ rfl (by kernel_rfl) (fun x=>by kernel_rfl) (fun x=>by kernel_rfl)
theorem zbs(h:bG G 77 8):bE bj G 295 HO:=cx h.i _ rfl (by kernel_rfl) (fun x=>by kernel_rfl) (fun x=>by kernel_rfl)
theorem zbt(h:bG G 84 8):bE bj G 100 HV:=cx h.i _ rfl (by kernel_rfl) (fun x=>by kernel_rfl) (fun x=>by kernel_rfl)
theorem zbu(h:bG G 92 8):bE bj G 272 H3:=cx h.i _ rfl (by kernel_rfl) (fun x=>by kernel_rfl) (fun x=>by kernel_rfl)
theorem zbv(h:bG G 99 8):bE bj G 105 Ia:=ga h.i _ rfl (by kernel_rfl) (fun x=>by kernel_rfl)
theorem zbw(h:bG G 107 8):bE bj G 263 Ij:=cx h.i _ rfl (by kernel_rfl) (fun x=>by kernel_rfl) (fun x=>by kernel_rfl)
theorem zbx(h:bG G 114 8):bE bj G 30 Ir:=cx h.i _ rfl (by kernel_rfl) (fun x=>by kernel_rfl) (fun x=>by kernel_rfl)
end
end Go.aK
