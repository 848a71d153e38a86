/- Contracts. Conditions: none. -/
import Derived.Test.YtmkpmgfieagphaaGreatDoorRPn
open Go Go.aM Go.ed
namespace Go.aM
section
variable {G:a7}
theorem Wn(h:b7 G 0 0):ck b0 G 93 FM:=dz h.i _ rfl (by kernel_rfl) (fun x=>by kernel_rfl) (fun x=>by kernel_rfl)
theorem Wo(h:b7 G 7 0):ck b0 G 39 FU:=k4 h.i _ rfl (by kernel_rfl) (fun x=>by kernel_rfl)
theorem Wp(h:b7 G 9 5):iQ b0 G 84 206 F1:=r3 h.i _ rfl (by kernel_rfl) (fun x=>by kernel_rfl) (fun x=>by kernel_rfl)
theorem Wq(h:b7 G 13 8):ck b0 G 118 F8:=dz h.i _ rfl (by kernel_rfl) (fun x=>by kernel_rfl) (fun x=>by kernel_rfl)
theorem Wr(h:b7 G 21 8):ck b0 G 121 Gf:=dz h.i _ rfl (by kernel_rfl) (fun x=>by kernel_rfl) (fun x=>by kernel_rfl)
theorem Ws(h:b7 G 25 11):iQ b0 G 90 212 Gm:=r3 h.i _ rfl (by kernel_rfl) (fun x=>by kernel_rfl) (fun x=>by kernel_rfl)
theorem Wt(h:b7 G 28 15):ck b0 G 97 Gu:=dz h.i _ rfl (by kernel_rfl) (fun x=>by kernel_rfl) (fun x=>by kernel_rfl)
theorem Wu(h:b7 G 36 15):ck b0 G 196 GB:=dz h.i _ rfl (by kernel_rfl) (fun x=>by kernel_rfl) (fun x=>by kernel_rfl)
theorem Wv(h:b7 G 43 15):ck b0 G 200 GJ:=k4 h.i _ rfl (by kernel_rfl) (fun x=>by kernel_rfl)
theorem Ww(h:b7 G 50 15):ck b0 G 126 GR:=dz h.i _ rfl (by kernel_rfl) (fun x=>by kernel_rfl) (fun x=>by kernel_rfl)
theorem Wx(h:b7 G 57 15):ck b0 G 15 G1:=dz h.i _ rfl (by kernel_rfl) (fun x=>by kernel_rfl) (fun x=>by kernel_rfl)
theorem Wy(h:b7 G 64 15):ck b0 G 131 G8:=dz h.i _ rfl (by kernel_rfl) (fun x=>by kernel_rfl) (fun x=>by kernel_rfl)
theorem Wz(h:b7 G 71 15):ck b0 G 21 Hf:=dz h.i _ rfl (by kernel_rfl) (fun x=>by kernel_rfl) (fun x=>by kernel_rfl)
end
end Go.aM
open Go Go.aM Go.ed
namespace Go.aM
section
variable {G:a7}
theorem WA(h:b7 G 1 0):ck b0 G 94 FN:=dz h.i _ rfl (by kernel_rfl) (fun x=>by kernel_rfl) (fun x=>by kernel_rfl)
theorem WB(h:b7 G 8 0):iQ b0 G 151 206 FV:=tY h.i _ rfl (by kernel_rfl) (fun x=>by kernel_rfl)
theorem WC(h:b7 G 9 6):iQ b0 G 155 206 F2:=tY h.i _ rfl (by kernel_rfl) (fun x=>by kernel_rfl)
theorem WD(h:b7 G 14 8):ck b0 G 120 F9:=dz h.i _ rfl (by kernel_rfl) (fun x=>by kernel_rfl) (fun x=>by kernel_rfl)
theorem WE(h:b7 G 22 8):ck b0 G 43 Gg:=dz h.i _ rfl (by kernel_rfl) (fun x=>by kernel_rfl) (fun x=>by kernel_rfl)
theorem WG(h:b7 G 25 12):ck b0 G 50 Gn:=k4 h.i _ rfl (by kernel_rfl) (fun x=>by kernel_rfl)
theorem WH(h:b7 G 29 15):ck b0 G 98 Gv:=dz h.i _ rfl (by kernel_rfl) (fun x=>by kernel_rfl) (fun x=>by kernel_rfl)
theorem WI(h:b7 G 37 15):ck b0 G 124 GC:=dz h.i _ rfl (by kernel_rfl) (fun x=>by kernel_rfl) (fun x=>by kernel_rfl)
theorem WJ(h:b7 G 44 15):ck b0 G 129 GK:=dz h.i _ rfl (by kernel_rfl) (fun x=>by kernel_rfl) (fun x=>by kernel_rfl)
theorem WK(h:b7 G 51 15):ck b0 G 127 GU:=dz h.i _ rfl (by kernel_rfl) (fun x=>by kernel_rfl) (fun x=>by kernel_rfl)
theorem WL(h:b7 G 58 15):ck b0 G 62 G2:=dz h.i _ rfl (by kernel_rfl) (fun x=>by kernel_rfl) (fun x=>by kernel_rfl)
theorem WM(h:b7 G 65 15):ck b0 G 202 G9:=k4 h.i _ rfl (by kernel_rfl) (fun x=>by kernel_rfl)
theorem WN(h:b7 G 72 15):ck b0 G 22 Hg:=dz h.i _ rfl (by kernel_rfl) (fun x=>by kernel_rfl) (fun x=>by kernel_rfl)
end
end Go.aM
open Go Go.aM Go.ed
namespace Go.aM
section
variable {G:a7}
theorem WO(h:b7 G 2 0):ck b0 G 193 FO:=k4 h.i _ rfl (by kernel_rfl) (fun x=>by kernel_rfl)
theorem WQ(h:b7 G 8 1):ck b0 G 152 FW:=dz h.i _ rfl (by kernel_rfl) (fun x=>by kernel_rfl) (fun x=>by kernel_rfl)
theorem WR(h:b7 G 9 7):iQ b0 G 85 206 F3:=tY h.i _ rfl (by kernel_rfl) (fun x=>by kernel_rfl)
theorem WS(h:b7 G 15 8):ck b0 G 40 Ga:=dz h.i _ rfl (by kernel_rfl) (fun x=>by kernel_rfl) (fun x=>by kernel_rfl)
theorem WT(h:b7 G 23 8):ck b0 G 45 Gh:=dz h.i _ rfl (by kernel_rfl) (fun x=>by kernel_rfl) (fun x=>by kernel_rfl)
theorem WU(h:b7 G 26 12):iQ b0 G 158 212 Gp:=tY h.i _ rfl (by kernel_rfl) (fun x=>by kernel_rfl)
theorem WV(h:b7 G 30 15):ck b0 G 29 Gw:=dz h.i _ rfl (by kernel_rfl) (fun x=>by kernel_rfl) (fun x=>by kernel_rfl)
theorem WW(h:b7 G 38 15):ck b0 G 51 GD:=dz h.i _ rfl (by kernel_rfl) (fun x=>by kernel_rfl) (fun x=>by kernel_rfl)
theorem WX(h:b7 G 45 15):ck b0 G 135 GL:=k4 h.i _ rfl (by kernel_rfl) (fun x=>by kernel_rfl)
theorem WY(h:b7 G 52 15):ck b0 G 199 GV:=dz h.i _ rfl (by kernel_rfl) (fun x=>by kernel_rfl) (fun x=>by kernel_rfl)
theorem WZ(h:b7 G 59 15):ck b0 G 130 G3:=dz h.i _ rfl (by kernel_rfl) (fun x=>by kernel_rfl) (fun x=>by kernel_rfl)
theorem W0(h:b7 G 66 15):ck b0 G 132 Ha:=dz h.i _ rfl (by kernel_rfl) (fun x=>by kernel_rfl) (fun x=>by kernel_rfl)
theorem W1(h:b7 G 73 15):ck b0 G 5 o6:=dz h.i _ rfl (by kernel_rfl) (fun x=>by kernel_rfl) (fun x=>by kernel_rfl)
end
end Go.aM
open Go Go.aM Go.ed
namespace Go.aM
section
variable {G:a7}
theorem W2(h:b7 G 3 0):ck b0 G 119 FP:=k4 h.i _ rfl (by kernel_rfl) (fun x=>by kernel_rfl)
theorem W3(h:b7 G 9 1):iQ b0 G 82 206 FX:=r3 h.i _ rfl (by kernel_rfl) (fun x=>by kernel_rfl) (fun x=>by kernel_rfl)
theorem W4(h:b7 G 9 8):ck b0 G 67 F4:=k4 h.i _ rfl (by kernel_rfl) (fun x=>by kernel_rfl)
theorem W5(h:b7 G 17 8):ck b0 G 46 Gb:=dz h.i _ rfl (by kernel_rfl) (fun x=>by kernel_rfl) (fun x=>by kernel_rfl)
theorem W6(h:b7 G 24 8):ck b0 G 13 Gi:=dz h.i _ rfl (by kernel_rfl) (fun x=>by kernel_rfl) (fun x=>by kernel_rfl)
theorem W7(h:b7 G 26 13):iQ b0 G 91 212 Gq:=r3 h.i _ rfl (by kernel_rfl) (fun x=>by kernel_rfl) (fun x=>by kernel_rfl)
theorem W8(h:b7 G 31 15):ck b0 G 47 Gx:=k4 h.i _ rfl (by kernel_rfl) (fun x=>by kernel_rfl)
theorem W9(h:b7 G 39 15):ck b0 G 53 GF:=dz h.i _ rfl (by kernel_rfl) (fun x=>by kernel_rfl) (fun x=>by kernel_rfl)
theorem Xa(h:b7 G 46 15):ck b0 G 309 GM:=k4 h.i _ rfl (by kernel_rfl) (fun x=>by kernel_rfl)
theorem Xb(h:b7 G 53 15):ck b0 G 128 GX:=dz h.i _ rfl (by kernel_rfl) (fun x=>by kernel_rfl) (fun x=>by kernel_rfl)
theorem Xc(h:b7 G 60 15):ck b0 G 310 G4:=k4 h.i _ rfl (by kernel_rfl) (fun x=>by kernel_rfl)
theorem Xd(h:b7 G 67 15):ck b0 G 57 Hb:=dz h.i _ rfl (by kernel_rfl) (fun x=>by kernel_rfl) (fun x=>by kernel_rfl)
end
end Go.aM
open Go Go.aM Go.ed
namespace Go.aM
section
variable {G:a7}
theorem Xe(h:b7 G 4 0):ck b0 G 95 FQ:=dz h.i _ rfl (by kernel_rfl) (fun x=>by kernel_rfl) (fun x=>by kernel_rfl)
theorem Xf(h:b7 G 9 2):iQ b0 G 153 206 FY:=r3 h.i _ rfl (by kernel_rfl) (fun x=>by kernel_rfl) (fun x=>by kernel_rfl)
theorem Xg(h:b7 G 10 8):ck b0 G 69 F5:=k4 h.i _ rfl (by kernel_rfl) (fun x=>by kernel_rfl)
theorem Xh(h:b7 G 18 8):ck b0 G 44 Gc:=dz h.i _ rfl (by kernel_rfl) (fun x=>by kernel_rfl) (fun x=>by kernel_rfl)
theorem Xi(h:b7 G 25 8):iQ b0 G 156 212 Gj:=tY h.i _ rfl (by kernel_rfl) (fun x=>by kernel_rfl)
theorem Xj(h:b7 G 26 14):iQ b0 G 92 212 Gr:=tY h.i _ rfl (by kernel_rfl) (fun x=>by kernel_rfl)
theorem Xk(h:b7 G 32 15):ck b0 G 48 Gy:=k4 h.i _ rfl (by kernel_rfl) (fun x=>by kernel_rfl)
theorem Xl(h:b7 G 40 15):ck b0 G 54 GG:=dz h.i _ rfl (by kernel_rfl) (fun x=>by kernel_rfl) (fun x=>by kernel_rfl)
theorem Xm(h:b7 G 47 15):ck b0 G 290 GN:=dz h.i _ rfl (by kernel_rfl) (fun x=>by kernel_rfl) (fun x=>by kernel_rfl)
theorem Xn(h:b7 G 54 15):ck b0 G 56 GY:=dz h.i _ rfl (by kernel_rfl) (fun x=>by kernel_rfl) (fun x=>by kernel_rfl)
theorem Xo(h:b7 G 61 15):ck b0 G 291 G5:=dz h.i _ rfl (by kernel_rfl) (fun x=>by kernel_rfl) (fun x=>by kernel_rfl)
theorem Xp(h:b7 G 68 15):ck b0 G 17 Hc:=dz h.i _ rfl (by kernel_rfl) (fun x=>by kernel_rfl) (fun x=>by kernel_rfl)
end
end Go.aM
open Go Go.aM Go.ed
namespace Go.aM
section
variable {G:a7}
theorem Xq(h:b7 G 5 0):ck b0 G 28 FR:=dz h.i _ rfl (by kernel_rfl) (fun x=>by kernel_rfl) (fun x=>by kernel_rfl)
theorem Xr(h:b7 G 9 3):iQ b0 G 83 206 FZ:=r3 h.i _ rfl (by kernel_rfl) (fun x=>by kernel_rfl) (fun x=>by kernel_rfl)
theorem Xs(h:b7 G 11 8):ck b0 G 26 F6:=dz h.i _ rfl (by kernel_rfl) (fun x=>by kernel_rfl) (fun x=>by kernel_rfl)
theorem Xt(h:b7 G 19 8):ck b0 G 42 Gd:=dz h.i _ rfl (by kernel_rfl) (fun x=>by kernel_rfl) (fun x=>by kernel_rfl)
theorem Xu(h:b7 G 25 9):iQ b0 G 89 212 Gk:=r3 h.i _ rfl (by kernel_rfl) (fun x=>by kernel_rfl) (fun x=>by kernel_rfl)
theorem Xv(h:b7 G 26 15):ck b0 G 27 Gs:=dz h.i _ rfl (by kernel_rfl) (fun x=>by kernel_rfl) (fun x=>by kernel_rfl)
theorem Xw(h:b7 G 34 15):ck b0 G 78 Gz:=dz h.i _ rfl (by kernel_rfl) (fun x=>by kernel_rfl) (fun x=>by kernel_rfl)
theorem Xx(h:b7 G 41 15):ck b0 G 14 GH:=dz h.i _ rfl (by kernel_rfl) (fun x=>by kernel_rfl) (fun x=>by kernel_rfl)
theorem Xy(h:b7 G 48 15):ck b0 G 254 GO:=dz h.i _ rfl (by kernel_rfl) (fun x=>by kernel_rfl) (fun x=>by kernel_rfl)
theorem Xz(h:b7 G 55 15):ck b0 G 16 GZ:=dz h.i _ rfl (by kernel_rfl) (fun x=>by kernel_rfl) (fun x=>by kernel_rfl)
theorem XA(h:b7 G 62 15):ck b0 G 255 G6:=dz h.i _ rfl (by kernel_rfl) (fun x=>by kernel_rfl) (fun x=>by kernel_rfl)
theorem XB(h:b7 G 69 15):ck b0 G 18 Hd:=dz h.i _ rfl (by kernel_rfl) (fun x=>by kernel_rfl) (fun x=>by kernel_rfl)
end
end Go.aM
open Go Go.aM Go.ed
namespace Go.aM
section
variable {G:a7}
theorem XC(h:b7 G 6 0):ck b0 G 38 FT:=k4 h.i _ rfl (by kernel_rfl) (fun x=>by kernel_rfl)
theorem XD(h:b7 G 9 4):iQ b0 G 154 206 F0:=tY h.i _ rfl (by kernel_rfl) (fun x=>by kernel_rfl)
theorem XE(h:b7 G 12 8):ck b0 G 192 F7:=k4 h.i _ rfl (by kernel_rfl) (fun x=>by kernel_rfl)
theorem XF(h:b7 G 20 8):ck b0 G 194 Ge:=dz h.i _ rfl (by kernel_rfl) (fun x=>by kernel_rfl) (fun x=>by kernel_rfl)
theorem XG(h:b7 G 25 10):iQ b0 G 157 212 Gl:=r3 h.i _ rfl (by kernel_rfl) (fun x=>by kernel_rfl) (fun x=>by kernel_rfl)
theorem XH(h:b7 G 27 15):ck b0 G 96 Gt:=dz h.i _ rfl (by kernel_rfl) (fun x=>by kernel_rfl) (fun x=>by kernel_rfl)
theorem XI(h:b7 G 35 15):ck b0 G 49 GA:=dz h.i _ rfl (by kernel_rfl) (fun x=>by kernel_rfl) (fun x=>by kernel_rfl)
theorem XJ(h:b7 G 42 15):ck b0 G 204 GI:=k4 h.i _ rfl (by kernel_rfl) (fun x=>by kernel_rfl)
theorem XK(h:b7 G 49 15):ck b0 G 198 GQ:=dz h.i _ rfl (by kernel_rfl) (fun x=>by kernel_rfl) (fun x=>by kernel_rfl)
theorem XL(h:b7 G 56 15):ck b0 G 20 G0:=dz h.i _ rfl (by kernel_rfl) (fun x=>by kernel_rfl) (fun x=>by kernel_rfl)
theorem XM(h:b7 G 63 15):ck b0 G 201 G7:=dz h.i _ rfl (by kernel_rfl) (fun x=>by kernel_rfl) (fun x=>by kernel_rfl)
theorem XN(h:b7 G 70 15):ck b0 G 19 He:=dz h.i _ rfl (by kernel_rfl) (fun x=>by kernel_rfl) (fun x=>by kernel_rfl)
end
end Go.aM
