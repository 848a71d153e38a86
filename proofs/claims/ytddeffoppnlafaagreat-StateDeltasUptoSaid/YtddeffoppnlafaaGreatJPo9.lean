/- Conditions: none. -/
import Derived.Test.YtddeffoppnlafaaGreatJPn
open Go Go.aH Go.eT
namespace Go.aH
section
variable {G:aV}
theorem zfG(h:c3 G 0 0):eU c2 G 16 UW:=Bl h.dA _ rfl
theorem zfH(h:c3 G 11 0):hz c2 G 37 130 U6:=za h.dA _ rfl
theorem zfI(h:c3 G 14 7):hz c2 G 127 130 Vg:=kf h.dA _ rfl
theorem zfJ(h:c3 G 14 17):eU c2 G 98 Vq:=gU h.dA _ rfl
theorem zfK(h:c3 G 17 24):hz c2 G 44 143 Vz:=kf h.dA _ rfl
theorem zfL(h:c3 G 21 30):eU c2 G 102 VJ:=gU h.dA _ rfl
theorem zfM(h:c3 G 31 30):eU c2 G 48 VT:=gU h.dA _ rfl
theorem zfN(h:c3 G 41 30):eU c2 G 47 V3:=gU h.dA _ rfl
end
end Go.aH
open Go Go.aH Go.eT
namespace Go.aH
section
variable {G:aV}
theorem zfO(h:c3 G 1 0):eU c2 G 5 UX:=gU h.dA _ rfl
theorem zfP(h:c3 G 11 1):eU c2 G 97 U7:=gU h.dA _ rfl
theorem zfQ(h:c3 G 14 8):hz c2 G 63 130 Vh:=kf h.dA _ rfl
noncomputable def t12:aG:=NG (NB 15 17) 12 (jM 0 tK.ps) (vg tK.ps.length)
theorem zfR:t12.gV.all (zb tK.rs)=true:=by kernel_rfl
theorem zfS: ∀x,V8 vf t12 (iX 0 (eH tK.ps x))=p3 tK.pre x:=λx=>by kernel_rfl
theorem zfT: ∀x,V9 vf t12 tK.rs (iX 0 (eH tK.ps x))=tK.m x:=λx=>by kernel_rfl
theorem zfU(h:c3 G 15 17):eU c2 G 12 tK:=zfV h.dA t12 rfl zfR zfS zfT
theorem zfW(h:c3 G 17 25):hz c2 G 75 143 VA:=kf h.dA _ rfl
theorem zfX(h:c3 G 22 30):eU c2 G 45 VK:=gU h.dA _ rfl
theorem zfY(h:c3 G 32 30):eU c2 G 90 VU:=gU h.dA _ rfl
theorem zfZ(h:c3 G 42 30):eU c2 G 15 V4:=gU h.dA _ rfl
end
end Go.aH
open Go Go.aH Go.eT
namespace Go.aH
section
variable {G:aV}
theorem zf0(h:c3 G 3 0):eU c2 G 32 UY:=gU h.dA _ rfl
theorem zf1(h:c3 G 12 1):hz c2 G 36 130 U8:=kf h.dA _ rfl
theorem zf2(h:c3 G 14 9):hz c2 G 129 130 Vi:=kf h.dA _ rfl
theorem zf3(h:c3 G 16 17):hz c2 G 41 143 Vr:=za h.dA _ rfl
theorem zf4(h:c3 G 17 26):hz c2 G 132 143 VB:=kf h.dA _ rfl
theorem zf5(h:c3 G 23 30):eU c2 G 136 VL:=gU h.dA _ rfl
theorem zf6(h:c3 G 33 30):eU c2 G 139 VV:=gU h.dA _ rfl
theorem zf7(h:c3 G 43 30):eU c2 G 4 u1:=gU h.dA _ rfl
end
end Go.aH
open Go Go.aH Go.eT
namespace Go.aH
section
variable {G:aV}
theorem zf8(h:c3 G 4 0):eU c2 G 140 UZ:=gU h.dA _ rfl
theorem zf9(h:c3 G 12 2):hz c2 G 99 130 U9:=kf h.dA _ rfl
theorem zga(h:c3 G 14 10):hz c2 G 130 130 Vj:=kf h.dA _ rfl
theorem zgb(h:c3 G 16 18):hz c2 G 40 143 Vs:=kf h.dA _ rfl
theorem zgc(h:c3 G 17 27):hz c2 G 76 143 VC:=kf h.dA _ rfl
theorem zgd(h:c3 G 24 30):eU c2 G 137 VM:=Bl h.dA _ rfl
theorem zge(h:c3 G 34 30):eU c2 G 94 VW:=gU h.dA _ rfl
end
end Go.aH
open Go Go.aH Go.eT
namespace Go.aH
section
variable {G:aV}
theorem zgf(h:c3 G 5 0):eU c2 G 96 U0:=gU h.dA _ rfl
theorem zgg(h:c3 G 12 3):hz c2 G 69 130 Va:=kf h.dA _ rfl
theorem zgh(h:c3 G 14 11):hz c2 G 66 130 Vk:=kf h.dA _ rfl
theorem zgi(h:c3 G 16 19):hz c2 G 43 143 Vt:=kf h.dA _ rfl
theorem zgj(h:c3 G 17 28):hz c2 G 78 143 VD:=kf h.dA _ rfl
theorem zgk(h:c3 G 25 30):eU c2 G 84 VN:=gU h.dA _ rfl
theorem zgl(h:c3 G 35 30):eU c2 G 91 VX:=gU h.dA _ rfl
end
end Go.aH
open Go Go.aH Go.eT
namespace Go.aH
section
variable {G:aV}
theorem zgm(h:c3 G 6 0):eU c2 G 31 U1:=gU h.dA _ rfl
theorem zgn(h:c3 G 12 4):hz c2 G 61 130 Vb:=kf h.dA _ rfl
theorem zgo(h:c3 G 14 12):hz c2 G 68 130 Vl:=kf h.dA _ rfl
theorem zgp(h:c3 G 16 20):hz c2 G 74 143 Vu:=kf h.dA _ rfl
theorem zgq(h:c3 G 17 29):hz c2 G 26 143 VE:=za h.dA _ rfl
theorem zgr(h:c3 G 26 30):eU c2 G 86 VO:=gU h.dA _ rfl
theorem zgs(h:c3 G 36 30):eU c2 G 92 VY:=gU h.dA _ rfl
end
end Go.aH
open Go Go.aH Go.eT
namespace Go.aH
section
variable {G:aV}
theorem zgt(h:c3 G 7 0):eU c2 G 33 U2:=gU h.dA _ rfl
theorem zgu(h:c3 G 12 5):hz c2 G 100 130 Vc:=za h.dA _ rfl
theorem zgv(h:c3 G 14 13):hz c2 G 71 130 Vm:=kf h.dA _ rfl
theorem zgw(h:c3 G 16 21):hz c2 G 42 143 Vv:=za h.dA _ rfl
theorem zgx(h:c3 G 17 30):eU c2 G 13 VF:=gU h.dA _ rfl
theorem zgy(h:c3 G 27 30):eU c2 G 88 VP:=gU h.dA _ rfl
theorem zgz(h:c3 G 37 30):eU c2 G 138 VZ:=Bl h.dA _ rfl
end
end Go.aH
open Go Go.aH Go.eT
namespace Go.aH
section
variable {G:aV}
theorem zgA(h:c3 G 8 0):eU c2 G 35 U3:=gU h.dA _ rfl
theorem zgB(h:c3 G 12 6):eU c2 G 218 Vd:=Bl h.dA _ rfl
theorem zgC(h:c3 G 14 14):hz c2 G 73 130 Vn:=za h.dA _ rfl
theorem zgD(h:c3 G 16 22):eU c2 G 182 Vw:=Bl h.dA _ rfl
theorem zgE(h:c3 G 18 30):eU c2 G 46 VG:=gU h.dA _ rfl
theorem zgF(h:c3 G 28 30):eU c2 G 89 VQ:=gU h.dA _ rfl
theorem zgG(h:c3 G 38 30):eU c2 G 93 V0:=gU h.dA _ rfl
end
end Go.aH
open Go Go.aH Go.eT
namespace Go.aH
section
variable {G:aV}
theorem zgH(h:c3 G 9 0):eU c2 G 34 U4:=gU h.dA _ rfl
theorem zgI(h:c3 G 13 6):eU c2 G 183 Ve:=Bl h.dA _ rfl
theorem zgJ(h:c3 G 14 15):hz c2 G 72 130 Vo:=kf h.dA _ rfl
theorem zgK(h:c3 G 17 22):hz c2 G 133 143 Vx:=kf h.dA _ rfl
theorem zgL(h:c3 G 19 30):eU c2 G 80 VH:=gU h.dA _ rfl
theorem zgM(h:c3 G 29 30):eU c2 G 28 VR:=gU h.dA _ rfl
theorem zgN(h:c3 G 39 30):eU c2 G 95 V1:=gU h.dA _ rfl
end
end Go.aH
open Go Go.aH Go.eT
namespace Go.aH
section
variable {G:aV}
theorem zgO(h:c3 G 10 0):eU c2 G 11 U5:=gU h.dA _ rfl
theorem zgP(h:c3 G 14 6):hz c2 G 181 130 Vf:=kf h.dA _ rfl
theorem zgQ(h:c3 G 14 16):hz c2 G 23 130 Vp:=za h.dA _ rfl
theorem zgR(h:c3 G 17 23):hz c2 G 77 143 Vy:=kf h.dA _ rfl
theorem zgS(h:c3 G 20 30):eU c2 G 141 VI:=gU h.dA _ rfl
theorem zgT(h:c3 G 30 30):eU c2 G 14 VS:=gU h.dA _ rfl
theorem zgU(h:c3 G 40 30):eU c2 G 30 V2:=gU h.dA _ rfl
end
end Go.aH
