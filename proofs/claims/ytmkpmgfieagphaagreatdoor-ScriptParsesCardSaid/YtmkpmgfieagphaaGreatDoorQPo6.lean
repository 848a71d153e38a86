/- Contracts. Conditions: none. -/
import Derived.Test.YtmkpmgfieagphaaGreatDoorQPn
open Go Go.aL Go.ei
namespace Go.aL
section
variable {G:aY}
theorem Vx(h:b8 G 0 0):cp b0 G 93 Fm:=dG h.i _ rfl (by kernel_rfl) (fun x=>by kernel_rfl) (fun x=>by kernel_rfl)
theorem Vy(h:b8 G 7 0):cp b0 G 39 Fv:=k1 h.i _ rfl (by kernel_rfl) (fun x=>by kernel_rfl)
theorem Vz(h:b8 G 9 5):iL b0 G 84 206 FC:=rV h.i _ rfl (by kernel_rfl) (fun x=>by kernel_rfl) (fun x=>by kernel_rfl)
theorem VA(h:b8 G 13 8):cp b0 G 118 FJ:=dG h.i _ rfl (by kernel_rfl) (fun x=>by kernel_rfl) (fun x=>by kernel_rfl)
theorem VB(h:b8 G 21 8):cp b0 G 121 FQ:=dG h.i _ rfl (by kernel_rfl) (fun x=>by kernel_rfl) (fun x=>by kernel_rfl)
theorem VC(h:b8 G 25 11):iL b0 G 90 212 FY:=rV h.i _ rfl (by kernel_rfl) (fun x=>by kernel_rfl) (fun x=>by kernel_rfl)
theorem VD(h:b8 G 28 15):cp b0 G 97 F5:=dG h.i _ rfl (by kernel_rfl) (fun x=>by kernel_rfl) (fun x=>by kernel_rfl)
theorem VE(h:b8 G 36 15):cp b0 G 196 Gc:=dG h.i _ rfl (by kernel_rfl) (fun x=>by kernel_rfl) (fun x=>by kernel_rfl)
theorem VF(h:b8 G 43 15):cp b0 G 200 Gj:=k1 h.i _ rfl (by kernel_rfl) (fun x=>by kernel_rfl)
theorem VG(h:b8 G 50 15):cp b0 G 126 Gr:=dG h.i _ rfl (by kernel_rfl) (fun x=>by kernel_rfl) (fun x=>by kernel_rfl)
theorem VH(h:b8 G 57 15):cp b0 G 15 Gy:=dG h.i _ rfl (by kernel_rfl) (fun x=>by kernel_rfl) (fun x=>by kernel_rfl)
theorem VI(h:b8 G 64 15):cp b0 G 131 GG:=dG h.i _ rfl (by kernel_rfl) (fun x=>by kernel_rfl) (fun x=>by kernel_rfl)
end
end Go.aL
open Go Go.aL Go.ei
namespace Go.aL
section
variable {G:aY}
theorem VJ(h:b8 G 1 0):cp b0 G 94 Fo:=dG h.i _ rfl (by kernel_rfl) (fun x=>by kernel_rfl) (fun x=>by kernel_rfl)
theorem VK(h:b8 G 8 0):iL b0 G 151 206 Fw:=tP h.i _ rfl (by kernel_rfl) (fun x=>by kernel_rfl)
theorem VL(h:b8 G 9 6):iL b0 G 155 206 FD:=tP h.i _ rfl (by kernel_rfl) (fun x=>by kernel_rfl)
theorem VM(h:b8 G 14 8):cp b0 G 120 FK:=dG h.i _ rfl (by kernel_rfl) (fun x=>by kernel_rfl) (fun x=>by kernel_rfl)
theorem VN(h:b8 G 22 8):cp b0 G 43 FR:=dG h.i _ rfl (by kernel_rfl) (fun x=>by kernel_rfl) (fun x=>by kernel_rfl)
theorem VO(h:b8 G 25 12):cp b0 G 50 FZ:=k1 h.i _ rfl (by kernel_rfl) (fun x=>by kernel_rfl)
theorem VP(h:b8 G 29 15):cp b0 G 98 F6:=dG h.i _ rfl (by kernel_rfl) (fun x=>by kernel_rfl) (fun x=>by kernel_rfl)
theorem VQ(h:b8 G 37 15):cp b0 G 124 Gd:=dG h.i _ rfl (by kernel_rfl) (fun x=>by kernel_rfl) (fun x=>by kernel_rfl)
theorem VR(h:b8 G 44 15):cp b0 G 129 Gk:=dG h.i _ rfl (by kernel_rfl) (fun x=>by kernel_rfl) (fun x=>by kernel_rfl)
theorem VS(h:b8 G 51 15):cp b0 G 127 Gs:=dG h.i _ rfl (by kernel_rfl) (fun x=>by kernel_rfl) (fun x=>by kernel_rfl)
theorem VT(h:b8 G 58 15):cp b0 G 62 Gz:=dG h.i _ rfl (by kernel_rfl) (fun x=>by kernel_rfl) (fun x=>by kernel_rfl)
theorem VU(h:b8 G 65 15):cp b0 G 202 GH:=k1 h.i _ rfl (by kernel_rfl) (fun x=>by kernel_rfl)
end
end Go.aL
open Go Go.aL Go.ei
namespace Go.aL
section
variable {G:aY}
theorem VV(h:b8 G 2 0):cp b0 G 193 Fp:=k1 h.i _ rfl (by kernel_rfl) (fun x=>by kernel_rfl)
theorem VW(h:b8 G 8 1):cp b0 G 152 Fx:=dG h.i _ rfl (by kernel_rfl) (fun x=>by kernel_rfl) (fun x=>by kernel_rfl)
theorem VX(h:b8 G 9 7):iL b0 G 85 206 FE:=tP h.i _ rfl (by kernel_rfl) (fun x=>by kernel_rfl)
theorem VY(h:b8 G 15 8):cp b0 G 40 FL:=dG h.i _ rfl (by kernel_rfl) (fun x=>by kernel_rfl) (fun x=>by kernel_rfl)
theorem VZ(h:b8 G 23 8):cp b0 G 45 FT:=dG h.i _ rfl (by kernel_rfl) (fun x=>by kernel_rfl) (fun x=>by kernel_rfl)
theorem V0(h:b8 G 26 12):iL b0 G 158 212 F0:=tP h.i _ rfl (by kernel_rfl) (fun x=>by kernel_rfl)
theorem V1(h:b8 G 30 15):cp b0 G 29 F7:=dG h.i _ rfl (by kernel_rfl) (fun x=>by kernel_rfl) (fun x=>by kernel_rfl)
theorem V2(h:b8 G 38 15):cp b0 G 51 Ge:=dG h.i _ rfl (by kernel_rfl) (fun x=>by kernel_rfl) (fun x=>by kernel_rfl)
theorem V3(h:b8 G 45 15):cp b0 G 135 Gl:=k1 h.i _ rfl (by kernel_rfl) (fun x=>by kernel_rfl)
theorem V4(h:b8 G 52 15):cp b0 G 199 Gt:=dG h.i _ rfl (by kernel_rfl) (fun x=>by kernel_rfl) (fun x=>by kernel_rfl)
theorem V5(h:b8 G 59 15):cp b0 G 130 GA:=dG h.i _ rfl (by kernel_rfl) (fun x=>by kernel_rfl) (fun x=>by kernel_rfl)
theorem V6(h:b8 G 66 15):cp b0 G 132 GI:=dG h.i _ rfl (by kernel_rfl) (fun x=>by kernel_rfl) (fun x=>by kernel_rfl)
end
end Go.aL
open Go Go.aL Go.ei
namespace Go.aL
section
variable {G:aY}
theorem V7(h:b8 G 3 0):cp b0 G 119 Fq:=k1 h.i _ rfl (by kernel_rfl) (fun x=>by kernel_rfl)
theorem V8(h:b8 G 9 1):iL b0 G 82 206 Fy:=rV h.i _ rfl (by kernel_rfl) (fun x=>by kernel_rfl) (fun x=>by kernel_rfl)
theorem V9(h:b8 G 9 8):cp b0 G 67 FF:=k1 h.i _ rfl (by kernel_rfl) (fun x=>by kernel_rfl)
theorem Wa(h:b8 G 17 8):cp b0 G 46 FM:=dG h.i _ rfl (by kernel_rfl) (fun x=>by kernel_rfl) (fun x=>by kernel_rfl)
theorem Wb(h:b8 G 24 8):cp b0 G 13 FU:=dG h.i _ rfl (by kernel_rfl) (fun x=>by kernel_rfl) (fun x=>by kernel_rfl)
theorem Wc(h:b8 G 26 13):iL b0 G 91 212 F1:=rV h.i _ rfl (by kernel_rfl) (fun x=>by kernel_rfl) (fun x=>by kernel_rfl)
theorem Wd(h:b8 G 31 15):cp b0 G 47 F8:=k1 h.i _ rfl (by kernel_rfl) (fun x=>by kernel_rfl)
theorem We(h:b8 G 39 15):cp b0 G 53 Gf:=dG h.i _ rfl (by kernel_rfl) (fun x=>by kernel_rfl) (fun x=>by kernel_rfl)
theorem Wf(h:b8 G 46 15):cp b0 G 309 Gm:=k1 h.i _ rfl (by kernel_rfl) (fun x=>by kernel_rfl)
theorem Wh(h:b8 G 53 15):cp b0 G 128 Gu:=dG h.i _ rfl (by kernel_rfl) (fun x=>by kernel_rfl) (fun x=>by kernel_rfl)
theorem Wi(h:b8 G 60 15):cp b0 G 310 GB:=k1 h.i _ rfl (by kernel_rfl) (fun x=>by kernel_rfl)
theorem Wj(h:b8 G 67 15):cp b0 G 57 GJ:=dG h.i _ rfl (by kernel_rfl) (fun x=>by kernel_rfl) (fun x=>by kernel_rfl)
end
end Go.aL
open Go Go.aL Go.ei
namespace Go.aL
section
variable {G:aY}
theorem Wk(h:b8 G 4 0):cp b0 G 95 Fs:=dG h.i _ rfl (by kernel_rfl) (fun x=>by kernel_rfl) (fun x=>by kernel_rfl)
theorem Wl(h:b8 G 9 2):iL b0 G 153 206 Fz:=rV h.i _ rfl (by kernel_rfl) (fun x=>by kernel_rfl) (fun x=>by kernel_rfl)
theorem Wm(h:b8 G 10 8):cp b0 G 69 FG:=k1 h.i _ rfl (by kernel_rfl) (fun x=>by kernel_rfl)
theorem Wn(h:b8 G 18 8):cp b0 G 44 FN:=dG h.i _ rfl (by kernel_rfl) (fun x=>by kernel_rfl) (fun x=>by kernel_rfl)
theorem Wo(h:b8 G 25 8):iL b0 G 156 212 FV:=tP h.i _ rfl (by kernel_rfl) (fun x=>by kernel_rfl)
theorem Wp(h:b8 G 26 14):iL b0 G 92 212 F2:=tP h.i _ rfl (by kernel_rfl) (fun x=>by kernel_rfl)
theorem Wq(h:b8 G 32 15):cp b0 G 48 F9:=k1 h.i _ rfl (by kernel_rfl) (fun x=>by kernel_rfl)
theorem Wr(h:b8 G 40 15):cp b0 G 54 Gg:=dG h.i _ rfl (by kernel_rfl) (fun x=>by kernel_rfl) (fun x=>by kernel_rfl)
theorem Ws(h:b8 G 47 15):cp b0 G 290 Gn:=dG h.i _ rfl (by kernel_rfl) (fun x=>by kernel_rfl) (fun x=>by kernel_rfl)
theorem Wt(h:b8 G 54 15):cp b0 G 56 Gv:=dG h.i _ rfl (by kernel_rfl) (fun x=>by kernel_rfl) (fun x=>by kernel_rfl)
theorem Wu(h:b8 G 61 15):cp b0 G 291 GC:=dG h.i _ rfl (by kernel_rfl) (fun x=>by kernel_rfl) (fun x=>by kernel_rfl)
theorem Wv(h:b8 G 68 15):cp b0 G 17 GK:=dG h.i _ rfl (by kernel_rfl) (fun x=>by kernel_rfl) (fun x=>by kernel_rfl)
end
end Go.aL
open Go Go.aL Go.ei
namespace Go.aL
section
variable {G:aY}
theorem Ww(h:b8 G 5 0):cp b0 G 28 Ft:=dG h.i _ rfl (by kernel_rfl) (fun x=>by kernel_rfl) (fun x=>by kernel_rfl)
theorem Wx(h:b8 G 9 3):iL b0 G 83 206 FA:=rV h.i _ rfl (by kernel_rfl) (fun x=>by kernel_rfl) (fun x=>by kernel_rfl)
theorem Wy(h:b8 G 11 8):cp b0 G 26 FH:=dG h.i _ rfl (by kernel_rfl) (fun x=>by kernel_rfl) (fun x=>by kernel_rfl)
theorem Wz(h:b8 G 19 8):cp b0 G 42 FO:=dG h.i _ rfl (by kernel_rfl) (fun x=>by kernel_rfl) (fun x=>by kernel_rfl)
theorem WA(h:b8 G 25 9):iL b0 G 89 212 FW:=rV h.i _ rfl (by kernel_rfl) (fun x=>by kernel_rfl) (fun x=>by kernel_rfl)
theorem WB(h:b8 G 26 15):cp b0 G 27 F3:=dG h.i _ rfl (by kernel_rfl) (fun x=>by kernel_rfl) (fun x=>by kernel_rfl)
theorem WC(h:b8 G 34 15):cp b0 G 78 Ga:=dG h.i _ rfl (by kernel_rfl) (fun x=>by kernel_rfl) (fun x=>by kernel_rfl)
theorem WD(h:b8 G 41 15):cp b0 G 14 Gh:=dG h.i _ rfl (by kernel_rfl) (fun x=>by kernel_rfl) (fun x=>by kernel_rfl)
theorem WE(h:b8 G 48 15):cp b0 G 254 Gp:=dG h.i _ rfl (by kernel_rfl) (fun x=>by kernel_rfl) (fun x=>by kernel_rfl)
theorem WG(h:b8 G 55 15):cp b0 G 16 Gw:=dG h.i _ rfl (by kernel_rfl) (fun x=>by kernel_rfl) (fun x=>by kernel_rfl)
theorem WH(h:b8 G 62 15):cp b0 G 255 GD:=dG h.i _ rfl (by kernel_rfl) (fun x=>by kernel_rfl) (fun x=>by kernel_rfl)
theorem WI(h:b8 G 69 15):cp b0 G 4 oZ:=dG h.i _ rfl (by kernel_rfl) (fun x=>by kernel_rfl) (fun x=>by kernel_rfl)
end
end Go.aL
open Go Go.aL Go.ei
namespace Go.aL
section
variable {G:aY}
theorem WJ(h:b8 G 6 0):cp b0 G 38 Fu:=k1 h.i _ rfl (by kernel_rfl) (fun x=>by kernel_rfl)
theorem WK(h:b8 G 9 4):iL b0 G 154 206 FB:=tP h.i _ rfl (by kernel_rfl) (fun x=>by kernel_rfl)
theorem WL(h:b8 G 12 8):cp b0 G 192 FI:=k1 h.i _ rfl (by kernel_rfl) (fun x=>by kernel_rfl)
theorem WM(h:b8 G 20 8):cp b0 G 194 FP:=dG h.i _ rfl (by kernel_rfl) (fun x=>by kernel_rfl) (fun x=>by kernel_rfl)
theorem WN(h:b8 G 25 10):iL b0 G 157 212 FX:=rV h.i _ rfl (by kernel_rfl) (fun x=>by kernel_rfl) (fun x=>by kernel_rfl)
theorem WO(h:b8 G 27 15):cp b0 G 96 F4:=dG h.i _ rfl (by kernel_rfl) (fun x=>by kernel_rfl) (fun x=>by kernel_rfl)
theorem WQ(h:b8 G 35 15):cp b0 G 49 Gb:=dG h.i _ rfl (by kernel_rfl) (fun x=>by kernel_rfl) (fun x=>by kernel_rfl)
theorem WR(h:b8 G 42 15):cp b0 G 204 Gi:=k1 h.i _ rfl (by kernel_rfl) (fun x=>by kernel_rfl)
theorem WS(h:b8 G 49 15):cp b0 G 198 Gq:=dG h.i _ rfl (by kernel_rfl) (fun x=>by kernel_rfl) (fun x=>by kernel_rfl)
theorem WT(h:b8 G 56 15):cp b0 G 20 Gx:=dG h.i _ rfl (by kernel_rfl) (fun x=>by kernel_rfl) (fun x=>by kernel_rfl)
theorem WU(h:b8 G 63 15):cp b0 G 201 GF:=dG h.i _ rfl (by kernel_rfl) (fun x=>by kernel_rfl) (fun x=>by kernel_rfl)
end
end Go.aL
