/- Contracts. Conditions: none. -/
import Derived.Test.YtmkpmgfieagphaaGreatDoorHPn
open Go Go.aN Go.eg
namespace Go.aN
section
variable {G:bc}
theorem zcO(h:bB G 0 0):bE bf G 93 IT:=cl h.i _ rfl (by kernel_rfl) (fun x=>by kernel_rfl) (fun x=>by kernel_rfl)
theorem zcP(h:bB G 6 1):bE bf G 152 I0:=cl h.i _ rfl (by kernel_rfl) (fun x=>by kernel_rfl) (fun x=>by kernel_rfl)
theorem zcQ(h:bB G 7 7):j8 bf G 85 206 I7:=xd h.i _ rfl (by kernel_rfl) (fun x=>by kernel_rfl)
theorem zcR(h:bB G 12 9):j8 bf G 89 212 Je:=uW h.i _ rfl (by kernel_rfl) (fun x=>by kernel_rfl) (fun x=>by kernel_rfl)
theorem zcS(h:bB G 15 13):bE bf G 78 Jl:=cl h.i _ rfl (by kernel_rfl) (fun x=>by kernel_rfl) (fun x=>by kernel_rfl)
theorem zcT(h:bB G 22 13):bE bf G 259 Js:=fm h.i _ rfl (by kernel_rfl) (fun x=>by kernel_rfl)
theorem zcU(h:bB G 30 13):bE bf G 261 Jz:=cl h.i _ rfl (by kernel_rfl) (fun x=>by kernel_rfl) (fun x=>by kernel_rfl)
theorem zcV(h:bB G 37 13):bE bf G 205 JG:=cl h.i _ rfl (by kernel_rfl) (fun x=>by kernel_rfl) (fun x=>by kernel_rfl)
theorem zcW(h:bB G 44 13):bE bf G 260 JN:=cl h.i _ rfl (by kernel_rfl) (fun x=>by kernel_rfl) (fun x=>by kernel_rfl)
theorem zcX(h:bB G 52 13):bE bf G 23 JU:=cl h.i _ rfl (by kernel_rfl) (fun x=>by kernel_rfl) (fun x=>by kernel_rfl)
theorem zcY(h:bB G 59 13):bE bf G 211 J1:=cl h.i _ rfl (by kernel_rfl) (fun x=>by kernel_rfl) (fun x=>by kernel_rfl)
theorem zcZ(h:bB G 66 13):bE bf G 184 J8:=fm h.i _ rfl (by kernel_rfl) (fun x=>by kernel_rfl)
theorem zc0(h:bB G 73 13):bE bf G 114 Kf:=cl h.i _ rfl (by kernel_rfl) (fun x=>by kernel_rfl) (fun x=>by kernel_rfl)
theorem zc1(h:bB G 80 13):bE bf G 266 Km:=cl h.i _ rfl (by kernel_rfl) (fun x=>by kernel_rfl) (fun x=>by kernel_rfl)
theorem zc2(h:bB G 87 13):bE bf G 296 Kt:=fm h.i _ rfl (by kernel_rfl) (fun x=>by kernel_rfl)
theorem zc3(h:bB G 95 13):bE bf G 297 KA:=cl h.i _ rfl (by kernel_rfl) (fun x=>by kernel_rfl) (fun x=>by kernel_rfl)
theorem zc4(h:bB G 102 13):bE bf G 167 KH:=cl h.i _ rfl (by kernel_rfl) (fun x=>by kernel_rfl) (fun x=>by kernel_rfl)
theorem zc5(h:bB G 110 13):bE bf G 264 KO:=cl h.i _ rfl (by kernel_rfl) (fun x=>by kernel_rfl) (fun x=>by kernel_rfl)
theorem zc6(h:bB G 117 13):bE bf G 112 KV:=fm h.i _ rfl (by kernel_rfl) (fun x=>by kernel_rfl)
theorem zc7(h:bB G 124 13):bE bf G 232 K2:=fm h.i _ rfl (by kernel_rfl) (fun x=>by kernel_rfl)
theorem zc8(h:bB G 131 13):bE bf G 233 K9:=cl h.i _ rfl (by kernel_rfl) (fun x=>by kernel_rfl) (fun x=>by kernel_rfl)
theorem zc9(h:bB G 138 13):bE bf G 178 Lg:=cl h.i _ rfl (by kernel_rfl) (fun x=>by kernel_rfl) (fun x=>by kernel_rfl)
end
end Go.aN
open Go Go.aN Go.eg
namespace Go.aN
section
variable {G:bc}
theorem zda(h:bB G 1 0):bE bf G 94 IU:=cl h.i _ rfl (by kernel_rfl) (fun x=>by kernel_rfl) (fun x=>by kernel_rfl)
theorem zdb(h:bB G 7 1):j8 bf G 82 206 I1:=uW h.i _ rfl (by kernel_rfl) (fun x=>by kernel_rfl) (fun x=>by kernel_rfl)
theorem zdc(h:bB G 7 8):bE bf G 67 I8:=fm h.i _ rfl (by kernel_rfl) (fun x=>by kernel_rfl)
theorem zdd(h:bB G 12 10):j8 bf G 157 212 Jf:=uW h.i _ rfl (by kernel_rfl) (fun x=>by kernel_rfl) (fun x=>by kernel_rfl)
theorem zde(h:bB G 16 13):bE bf G 54 Jm:=cl h.i _ rfl (by kernel_rfl) (fun x=>by kernel_rfl) (fun x=>by kernel_rfl)
theorem zdf(h:bB G 23 13):bE bf G 237 Jt:=fm h.i _ rfl (by kernel_rfl) (fun x=>by kernel_rfl)
theorem zdg(h:bB G 31 13):bE bf G 208 JA:=cl h.i _ rfl (by kernel_rfl) (fun x=>by kernel_rfl) (fun x=>by kernel_rfl)
theorem zdh(h:bB G 38 13):bE bf G 136 JH:=cl h.i _ rfl (by kernel_rfl) (fun x=>by kernel_rfl) (fun x=>by kernel_rfl)
theorem zdi(h:bB G 45 13):bE bf G 207 JO:=cl h.i _ rfl (by kernel_rfl) (fun x=>by kernel_rfl) (fun x=>by kernel_rfl)
theorem zdj(h:bB G 53 13):bE bf G 247 JV:=fm h.i _ rfl (by kernel_rfl) (fun x=>by kernel_rfl)
theorem zdk(h:bB G 60 13):bE bf G 145 J2:=cl h.i _ rfl (by kernel_rfl) (fun x=>by kernel_rfl) (fun x=>by kernel_rfl)
theorem zdl(h:bB G 67 13):bE bf G 185 J9:=cl h.i _ rfl (by kernel_rfl) (fun x=>by kernel_rfl) (fun x=>by kernel_rfl)
theorem zdm(h:bB G 74 13):bE bf G 144 Kg:=cl h.i _ rfl (by kernel_rfl) (fun x=>by kernel_rfl) (fun x=>by kernel_rfl)
theorem zdn(h:bB G 81 13):bE bf G 217 Kn:=cl h.i _ rfl (by kernel_rfl) (fun x=>by kernel_rfl) (fun x=>by kernel_rfl)
theorem zdo(h:bB G 88 13):bE bf G 268 Ku:=fm h.i _ rfl (by kernel_rfl) (fun x=>by kernel_rfl)
theorem zdp(h:bB G 96 13):bE bf G 299 KB:=cl h.i _ rfl (by kernel_rfl) (fun x=>by kernel_rfl) (fun x=>by kernel_rfl)
theorem zdq(h:bB G 103 13):bE bf G 106 KI:=cl h.i _ rfl (by kernel_rfl) (fun x=>by kernel_rfl) (fun x=>by kernel_rfl)
theorem zdr(h:bB G 111 13):bE bf G 216 KP:=cl h.i _ rfl (by kernel_rfl) (fun x=>by kernel_rfl) (fun x=>by kernel_rfl)
theorem zds(h:bB G 118 13):bE bf G 34 KW:=fm h.i _ rfl (by kernel_rfl) (fun x=>by kernel_rfl)
theorem zdt(h:bB G 125 13):bE bf G 275 K3:=fm h.i _ rfl (by kernel_rfl) (fun x=>by kernel_rfl)
theorem zdu(h:bB G 132 13):bE bf G 176 La:=cl h.i _ rfl (by kernel_rfl) (fun x=>by kernel_rfl) (fun x=>by kernel_rfl)
theorem zdv(h:bB G 139 13):bE bf G 110 Lh:=cl h.i _ rfl (by kernel_rfl) (fun x=>by kernel_rfl) (fun x=>by kernel_rfl)
end
end Go.aN
open Go Go.aN Go.eg
namespace Go.aN
section
variable {G:bc}
theorem zdw(h:bB G 2 0):bE bf G 193 IV:=fm h.i _ rfl (by kernel_rfl) (fun x=>by kernel_rfl)
theorem zdx(h:bB G 7 2):j8 bf G 153 206 I2:=uW h.i _ rfl (by kernel_rfl) (fun x=>by kernel_rfl) (fun x=>by kernel_rfl)
theorem zdy(h:bB G 8 8):bE bf G 69 I9:=fm h.i _ rfl (by kernel_rfl) (fun x=>by kernel_rfl)
theorem zdz(h:bB G 12 11):j8 bf G 90 212 Jg:=uW h.i _ rfl (by kernel_rfl) (fun x=>by kernel_rfl) (fun x=>by kernel_rfl)
theorem zdA(h:bB G 17 13):bE bf G 200 Jn:=fm h.i _ rfl (by kernel_rfl) (fun x=>by kernel_rfl)
theorem zdB(h:bB G 24 13):bE bf G 206 Ju:=fm h.i _ rfl (by kernel_rfl) (fun x=>by kernel_rfl)
theorem zdC(h:bB G 32 13):bE bf G 316 JB:=cl h.i _ rfl (by kernel_rfl) (fun x=>by kernel_rfl) (fun x=>by kernel_rfl)
theorem zdD(h:bB G 39 13):bE bf G 137 JI:=fm h.i _ rfl (by kernel_rfl) (fun x=>by kernel_rfl)
theorem zdE(h:bB G 46 13):bE bf G 140 JP:=cl h.i _ rfl (by kernel_rfl) (fun x=>by kernel_rfl) (fun x=>by kernel_rfl)
theorem zdF(h:bB G 54 13):bE bf G 187 JW:=cl h.i _ rfl (by kernel_rfl) (fun x=>by kernel_rfl) (fun x=>by kernel_rfl)
theorem zdG(h:bB G 61 13):bE bf G 303 J3:=cl h.i _ rfl (by kernel_rfl) (fun x=>by kernel_rfl) (fun x=>by kernel_rfl)
theorem zdH(h:bB G 68 13):bE bf G 210 Ka:=cl h.i _ rfl (by kernel_rfl) (fun x=>by kernel_rfl) (fun x=>by kernel_rfl)
theorem zdI(h:bB G 75 13):bE bf G 76 Kh:=cl h.i _ rfl (by kernel_rfl) (fun x=>by kernel_rfl) (fun x=>by kernel_rfl)
theorem zdJ(h:bB G 82 13):bE bf G 218 Ko:=cl h.i _ rfl (by kernel_rfl) (fun x=>by kernel_rfl) (fun x=>by kernel_rfl)
theorem zdK(h:bB G 89 13):bE bf G 220 Kv:=cl h.i _ rfl (by kernel_rfl) (fun x=>by kernel_rfl) (fun x=>by kernel_rfl)
theorem zdL(h:bB G 97 13):bE bf G 273 KC:=cl h.i _ rfl (by kernel_rfl) (fun x=>by kernel_rfl) (fun x=>by kernel_rfl)
theorem zdM(h:bB G 104 13):bE bf G 31 KJ:=cl h.i _ rfl (by kernel_rfl) (fun x=>by kernel_rfl) (fun x=>by kernel_rfl)
theorem zdN(h:bB G 112 13):bE bf G 149 KQ:=cl h.i _ rfl (by kernel_rfl) (fun x=>by kernel_rfl) (fun x=>by kernel_rfl)
theorem zdO(h:bB G 119 13):bE bf G 229 KX:=cl h.i _ rfl (by kernel_rfl) (fun x=>by kernel_rfl) (fun x=>by kernel_rfl)
theorem zdP(h:bB G 126 13):bE bf G 276 K4:=cl h.i _ rfl (by kernel_rfl) (fun x=>by kernel_rfl) (fun x=>by kernel_rfl)
theorem zdQ(h:bB G 133 13):bE bf G 234 Lb:=cl h.i _ rfl (by kernel_rfl) (fun x=>by kernel_rfl) (fun x=>by kernel_rfl)
theorem zdR(h:bB G 140 13):bE bf G 111 Li:=cl h.i _ rfl (by kernel_rfl) (fun x=>by kernel_rfl) (fun x=>by kernel_rfl)
end
end Go.aN
open Go Go.aN Go.eg
namespace Go.aN
section
variable {G:bc}
theorem zdS(h:bB G 3 0):bE bf G 119 IW:=fm h.i _ rfl (by kernel_rfl) (fun x=>by kernel_rfl)
theorem zdT(h:bB G 7 3):j8 bf G 83 206 I3:=uW h.i _ rfl (by kernel_rfl) (fun x=>by kernel_rfl) (fun x=>by kernel_rfl)
theorem zdU(h:bB G 9 8):bE bf G 26 Ja:=cl h.i _ rfl (by kernel_rfl) (fun x=>by kernel_rfl) (fun x=>by kernel_rfl)
theorem zdV(h:bB G 12 12):bE bf G 50 Jh:=fm h.i _ rfl (by kernel_rfl) (fun x=>by kernel_rfl)
theorem zdW(h:bB G 18 13):bE bf G 199 Jo:=cl h.i _ rfl (by kernel_rfl) (fun x=>by kernel_rfl) (fun x=>by kernel_rfl)
theorem zdX(h:bB G 25 13):bE bf G 280 Jv:=cl h.i _ rfl (by kernel_rfl) (fun x=>by kernel_rfl) (fun x=>by kernel_rfl)
theorem zdY(h:bB G 33 13):bE bf G 315 JC:=cl h.i _ rfl (by kernel_rfl) (fun x=>by kernel_rfl) (fun x=>by kernel_rfl)
theorem zdZ(h:bB G 40 13):bE bf G 138 JJ:=fm h.i _ rfl (by kernel_rfl) (fun x=>by kernel_rfl)
theorem zd0(h:bB G 47 13):bE bf G 180 JQ:=cl h.i _ rfl (by kernel_rfl) (fun x=>by kernel_rfl) (fun x=>by kernel_rfl)
theorem zd1(h:bB G 55 13):bE bf G 190 JX:=fm h.i _ rfl (by kernel_rfl) (fun x=>by kernel_rfl)
theorem zd2(h:bB G 62 13):bE bf G 284 J4:=cl h.i _ rfl (by kernel_rfl) (fun x=>by kernel_rfl) (fun x=>by kernel_rfl)
theorem zd3(h:bB G 69 13):bE bf G 143 Kb:=cl h.i _ rfl (by kernel_rfl) (fun x=>by kernel_rfl) (fun x=>by kernel_rfl)
theorem zd4(h:bB G 76 13):bE bf G 146 Ki:=fm h.i _ rfl (by kernel_rfl) (fun x=>by kernel_rfl)
theorem zd5(h:bB G 83 13):bE bf G 159 Kp:=cl h.i _ rfl (by kernel_rfl) (fun x=>by kernel_rfl) (fun x=>by kernel_rfl)
theorem zd6(h:bB G 90 13):bE bf G 222 Kw:=fm h.i _ rfl (by kernel_rfl) (fun x=>by kernel_rfl)
theorem zd7(h:bB G 98 13):bE bf G 163 KD:=cl h.i _ rfl (by kernel_rfl) (fun x=>by kernel_rfl) (fun x=>by kernel_rfl)
theorem zd8(h:bB G 106 13):bE bf G 79 KK:=cl h.i _ rfl (by kernel_rfl) (fun x=>by kernel_rfl) (fun x=>by kernel_rfl)
theorem zd9(h:bB G 113 13):bE bf G 150 KR:=cl h.i _ rfl (by kernel_rfl) (fun x=>by kernel_rfl) (fun x=>by kernel_rfl)
theorem zea(h:bB G 120 13):bE bf G 170 KY:=cl h.i _ rfl (by kernel_rfl) (fun x=>by kernel_rfl) (fun x=>by kernel_rfl)
theorem zeb(h:bB G 127 13):bE bf G 230 K5:=cl h.i _ rfl (by kernel_rfl) (fun x=>by kernel_rfl) (fun x=>by kernel_rfl)
theorem zec(h:bB G 134 13):bE bf G 235 Lc:=cl h.i _ rfl (by kernel_rfl) (fun x=>by kernel_rfl) (fun x=>by kernel_rfl)
theorem zed(h:bB G 141 13):bE bf G 32 Lj:=cl h.i _ rfl (by kernel_rfl) (fun x=>by kernel_rfl) (fun x=>by kernel_rfl)
end
end Go.aN
open Go Go.aN Go.eg
namespace Go.aN
section
variable {G:bc}
theorem zee(h:bB G 4 0):bE bf G 95 IX:=cl h.i _ rfl (by kernel_rfl) (fun x=>by kernel_rfl) (fun x=>by kernel_rfl)
theorem zef(h:bB G 7 4):j8 bf G 154 206 I4:=xd h.i _ rfl (by kernel_rfl) (fun x=>by kernel_rfl)
theorem zeg(h:bB G 10 8):bE bf G 192 Jb:=fm h.i _ rfl (by kernel_rfl) (fun x=>by kernel_rfl)
theorem zeh(h:bB G 13 12):j8 bf G 92 212 Ji:=xd h.i _ rfl (by kernel_rfl) (fun x=>by kernel_rfl)
theorem zei(h:bB G 19 13):bE bf G 128 Jp:=cl h.i _ rfl (by kernel_rfl) (fun x=>by kernel_rfl) (fun x=>by kernel_rfl)
theorem zej(h:bB G 26 13):bE bf G 242 Jw:=cl h.i _ rfl (by kernel_rfl) (fun x=>by kernel_rfl) (fun x=>by kernel_rfl)
theorem zek(h:bB G 34 13):bE bf G 311 JD:=cl h.i _ rfl (by kernel_rfl) (fun x=>by kernel_rfl) (fun x=>by kernel_rfl)
theorem zel(h:bB G 41 13):bE bf G 139 JK:=fm h.i _ rfl (by kernel_rfl) (fun x=>by kernel_rfl)
theorem zem(h:bB G 49 13):bE bf G 209 JR:=cl h.i _ rfl (by kernel_rfl) (fun x=>by kernel_rfl) (fun x=>by kernel_rfl)
theorem zen(h:bB G 56 13):bE bf G 248 JY:=fm h.i _ rfl (by kernel_rfl) (fun x=>by kernel_rfl)
theorem zeo(h:bB G 63 13):bE bf G 249 J5:=cl h.i _ rfl (by kernel_rfl) (fun x=>by kernel_rfl) (fun x=>by kernel_rfl)
theorem zep(h:bB G 70 13):bE bf G 74 Kc:=cl h.i _ rfl (by kernel_rfl) (fun x=>by kernel_rfl) (fun x=>by kernel_rfl)
theorem zeq(h:bB G 77 13):bE bf G 77 Kj:=cl h.i _ rfl (by kernel_rfl) (fun x=>by kernel_rfl) (fun x=>by kernel_rfl)
theorem zer(h:bB G 84 13):bE bf G 219 Kq:=fm h.i _ rfl (by kernel_rfl) (fun x=>by kernel_rfl)
theorem zes(h:bB G 91 13):bE bf G 161 Kx:=cl h.i _ rfl (by kernel_rfl) (fun x=>by kernel_rfl) (fun x=>by kernel_rfl)
theorem zet(h:bB G 99 13):bE bf G 103 KE:=cl h.i _ rfl (by kernel_rfl) (fun x=>by kernel_rfl) (fun x=>by kernel_rfl)
theorem zeu(h:bB G 107 13):bE bf G 148 KL:=cl h.i _ rfl (by kernel_rfl) (fun x=>by kernel_rfl) (fun x=>by kernel_rfl)
theorem zev(h:bB G 114 13):bE bf G 80 KS:=cl h.i _ rfl (by kernel_rfl) (fun x=>by kernel_rfl) (fun x=>by kernel_rfl)
theorem zew(h:bB G 121 13):bE bf G 171 KZ:=fm h.i _ rfl (by kernel_rfl) (fun x=>by kernel_rfl)
theorem zex(h:bB G 128 13):bE bf G 172 K6:=cl h.i _ rfl (by kernel_rfl) (fun x=>by kernel_rfl) (fun x=>by kernel_rfl)
theorem zey(h:bB G 135 13):bE bf G 177 Ld:=cl h.i _ rfl (by kernel_rfl) (fun x=>by kernel_rfl) (fun x=>by kernel_rfl)
theorem zez(h:bB G 142 13):bE bf G 33 Lk:=cl h.i _ rfl (by kernel_rfl) (fun x=>by kernel_rfl) (fun x=>by kernel_rfl)
end
end Go.aN
open Go Go.aN Go.eg
namespace Go.aN
section
variable {G:bc}
theorem zeA(h:bB G 5 0):bE bf G 28 IY:=cl h.i _ rfl (by kernel_rfl) (fun x=>by kernel_rfl) (fun x=>by kernel_rfl)
theorem zeB(h:bB G 7 5):j8 bf G 84 206 I5:=uW h.i _ rfl (by kernel_rfl) (fun x=>by kernel_rfl) (fun x=>by kernel_rfl)
theorem zeC(h:bB G 11 8):bE bf G 118 Jc:=cl h.i _ rfl (by kernel_rfl) (fun x=>by kernel_rfl) (fun x=>by kernel_rfl)
theorem zeD(h:bB G 13 13):bE bf G 96 Jj:=cl h.i _ rfl (by kernel_rfl) (fun x=>by kernel_rfl) (fun x=>by kernel_rfl)
theorem zeE(h:bB G 20 13):bE bf G 202 Jq:=fm h.i _ rfl (by kernel_rfl) (fun x=>by kernel_rfl)
theorem zeF(h:bB G 27 13):bE bf G 257 Jx:=fm h.i _ rfl (by kernel_rfl) (fun x=>by kernel_rfl)
theorem zeG(h:bB G 35 13):bE bf G 293 JE:=cl h.i _ rfl (by kernel_rfl) (fun x=>by kernel_rfl) (fun x=>by kernel_rfl)
theorem zeH(h:bB G 42 13):bE bf G 65 JL:=cl h.i _ rfl (by kernel_rfl) (fun x=>by kernel_rfl) (fun x=>by kernel_rfl)
theorem zeI(h:bB G 50 13):bE bf G 141 JS:=cl h.i _ rfl (by kernel_rfl) (fun x=>by kernel_rfl) (fun x=>by kernel_rfl)
theorem zeJ(h:bB G 57 13):bE bf G 302 JZ:=cl h.i _ rfl (by kernel_rfl) (fun x=>by kernel_rfl) (fun x=>by kernel_rfl)
theorem zeK(h:bB G 64 13):bE bf G 189 J6:=cl h.i _ rfl (by kernel_rfl) (fun x=>by kernel_rfl) (fun x=>by kernel_rfl)
theorem zeL(h:bB G 71 13):bE bf G 75 Kd:=fm h.i _ rfl (by kernel_rfl) (fun x=>by kernel_rfl)
theorem zeM(h:bB G 78 13):bE bf G 24 Kk:=cl h.i _ rfl (by kernel_rfl) (fun x=>by kernel_rfl) (fun x=>by kernel_rfl)
theorem zeN(h:bB G 85 13):bE bf G 160 Kr:=fm h.i _ rfl (by kernel_rfl) (fun x=>by kernel_rfl)
theorem zeO(h:bB G 93 13):bE bf G 162 Ky:=cl h.i _ rfl (by kernel_rfl) (fun x=>by kernel_rfl) (fun x=>by kernel_rfl)
theorem zeP(h:bB G 100 13):bE bf G 104 KF:=fm h.i _ rfl (by kernel_rfl) (fun x=>by kernel_rfl)
theorem zeQ(h:bB G 108 13):bE bf G 215 KM:=fm h.i _ rfl (by kernel_rfl) (fun x=>by kernel_rfl)
theorem zeR(h:bB G 115 13):bE bf G 25 KT:=cl h.i _ rfl (by kernel_rfl) (fun x=>by kernel_rfl) (fun x=>by kernel_rfl)
theorem zeS(h:bB G 122 13):bE bf G 108 K0:=cl h.i _ rfl (by kernel_rfl) (fun x=>by kernel_rfl) (fun x=>by kernel_rfl)
theorem zeT(h:bB G 129 13):bE bf G 231 K7:=fm h.i _ rfl (by kernel_rfl) (fun x=>by kernel_rfl)
theorem zeU(h:bB G 136 13):bE bf G 109 Le:=cl h.i _ rfl (by kernel_rfl) (fun x=>by kernel_rfl) (fun x=>by kernel_rfl)
theorem zeV(h:bB G 143 13):bE bf G 8 pU:=cl h.i _ rfl (by kernel_rfl) (fun x=>by kernel_rfl) (fun x=>by kernel_rfl)
end
end Go.aN
open Go Go.aN Go.eg
namespace Go.aN
section
variable {G:bc}
theorem zeW(h:bB G 6 0):j8 bf G 151 206 IZ:=xd h.i _ rfl (by kernel_rfl) (fun x=>by kernel_rfl)
theorem zeX(h:bB G 7 6):j8 bf G 155 206 I6:=xd h.i _ rfl (by kernel_rfl) (fun x=>by kernel_rfl)
theorem zeY(h:bB G 12 8):j8 bf G 156 212 Jd:=xd h.i _ rfl (by kernel_rfl) (fun x=>by kernel_rfl)
theorem zeZ(h:bB G 14 13):bE bf G 97 Jk:=cl h.i _ rfl (by kernel_rfl) (fun x=>by kernel_rfl) (fun x=>by kernel_rfl)
theorem ze0(h:bB G 21 13):bE bf G 132 Jr:=cl h.i _ rfl (by kernel_rfl) (fun x=>by kernel_rfl) (fun x=>by kernel_rfl)
theorem ze1(h:bB G 28 13):bE bf G 292 Jy:=fm h.i _ rfl (by kernel_rfl) (fun x=>by kernel_rfl)
theorem ze2(h:bB G 36 13):bE bf G 258 JF:=cl h.i _ rfl (by kernel_rfl) (fun x=>by kernel_rfl) (fun x=>by kernel_rfl)
theorem ze3(h:bB G 43 13):bE bf G 71 JM:=fm h.i _ rfl (by kernel_rfl) (fun x=>by kernel_rfl)
theorem ze4(h:bB G 51 13):bE bf G 73 JT:=cl h.i _ rfl (by kernel_rfl) (fun x=>by kernel_rfl) (fun x=>by kernel_rfl)
theorem ze5(h:bB G 58 13):bE bf G 283 J0:=cl h.i _ rfl (by kernel_rfl) (fun x=>by kernel_rfl) (fun x=>by kernel_rfl)
theorem ze6(h:bB G 65 13):bE bf G 142 J7:=cl h.i _ rfl (by kernel_rfl) (fun x=>by kernel_rfl) (fun x=>by kernel_rfl)
theorem ze7(h:bB G 72 13):bE bf G 175 Ke:=cl h.i _ rfl (by kernel_rfl) (fun x=>by kernel_rfl) (fun x=>by kernel_rfl)
theorem ze8(h:bB G 79 13):bE bf G 295 Kl:=cl h.i _ rfl (by kernel_rfl) (fun x=>by kernel_rfl) (fun x=>by kernel_rfl)
theorem ze9(h:bB G 86 13):bE bf G 100 Ks:=cl h.i _ rfl (by kernel_rfl) (fun x=>by kernel_rfl) (fun x=>by kernel_rfl)
theorem zfa(h:bB G 94 13):bE bf G 272 Kz:=cl h.i _ rfl (by kernel_rfl) (fun x=>by kernel_rfl) (fun x=>by kernel_rfl)
theorem zfb(h:bB G 101 13):bE bf G 105 KG:=fm h.i _ rfl (by kernel_rfl) (fun x=>by kernel_rfl)
theorem zfc(h:bB G 109 13):bE bf G 263 KN:=cl h.i _ rfl (by kernel_rfl) (fun x=>by kernel_rfl) (fun x=>by kernel_rfl)
theorem zfd(h:bB G 116 13):bE bf G 30 KU:=cl h.i _ rfl (by kernel_rfl) (fun x=>by kernel_rfl) (fun x=>by kernel_rfl)
theorem zfe(h:bB G 123 13):bE bf G 173 K1:=fm h.i _ rfl (by kernel_rfl) (fun x=>by kernel_rfl)
theorem zff(h:bB G 130 13):bE bf G 174 K8:=fm h.i _ rfl (by kernel_rfl) (fun x=>by kernel_rfl)
theorem zfg(h:bB G 137 13):bE bf G 179 Lf:=cl h.i _ rfl (by kernel_rfl) (fun x=>by kernel_rfl) (fun x=>by kernel_rfl)
end
end Go.aN
