/- Contracts. Conditions: none. -/
import Derived.Test.YtddeffoppnlafaaGreatKPn
open Go Go.aK Go.fb
namespace Go.aK
section
variable {G:aR}
theorem zbv(h:c0 G 0 0):eF cZ G 16 Kf:=yG h.i _ rfl (by kernel_rfl) (fun x=>by kernel_rfl)
theorem zbw(h:c0 G 4 5):gC cZ G 100 130 Kn:=wI h.hk _ rfl (by kernel_rfl) (fun x=>by kernel_rfl)
theorem zbx(h:c0 G 6 11):gC cZ G 66 130 Kv:=jx h.hk _ rfl (by kernel_rfl) (fun x=>by kernel_rfl) (fun x=>by kernel_rfl)
theorem zby(h:c0 G 7 18):gC cZ G 40 143 KD:=jx h.hk _ rfl (by kernel_rfl) (fun x=>by kernel_rfl) (fun x=>by kernel_rfl)
theorem zbz(h:c0 G 8 25):gC cZ G 75 143 KL:=jx h.hk _ rfl (by kernel_rfl) (fun x=>by kernel_rfl) (fun x=>by kernel_rfl)
theorem zbA(h:c0 G 11 30):eF cZ G 141 KT:=gD h.i _ rfl (by kernel_rfl) (fun x=>by kernel_rfl) (fun x=>by kernel_rfl)
theorem zbB(h:c0 G 19 30):eF cZ G 89 K1:=gD h.i _ rfl (by kernel_rfl) (fun x=>by kernel_rfl) (fun x=>by kernel_rfl)
theorem zbC(h:c0 G 27 30):eF cZ G 92 K9:=gD h.i _ rfl (by kernel_rfl) (fun x=>by kernel_rfl) (fun x=>by kernel_rfl)
theorem zbD(h:c0 G 35 30):eF cZ G 96 Lh:=gD h.i _ rfl (by kernel_rfl) (fun x=>by kernel_rfl) (fun x=>by kernel_rfl)
end
end Go.aK
open Go Go.aK Go.fb
namespace Go.aK
section
variable {G:aR}
theorem zbE(h:c0 G 1 0):eF cZ G 5 Kg:=gD h.i _ rfl (by kernel_rfl) (fun x=>by kernel_rfl) (fun x=>by kernel_rfl)
theorem zbF(h:c0 G 4 6):eF cZ G 218 Ko:=yG h.i _ rfl (by kernel_rfl) (fun x=>by kernel_rfl)
theorem zbG(h:c0 G 6 12):gC cZ G 68 130 Kw:=jx h.hk _ rfl (by kernel_rfl) (fun x=>by kernel_rfl) (fun x=>by kernel_rfl)
theorem zbH(h:c0 G 7 19):gC cZ G 43 143 KE:=jx h.hk _ rfl (by kernel_rfl) (fun x=>by kernel_rfl) (fun x=>by kernel_rfl)
theorem zbI(h:c0 G 8 26):gC cZ G 132 143 KM:=jx h.hk _ rfl (by kernel_rfl) (fun x=>by kernel_rfl) (fun x=>by kernel_rfl)
theorem zbJ(h:c0 G 12 30):eF cZ G 102 KU:=gD h.i _ rfl (by kernel_rfl) (fun x=>by kernel_rfl) (fun x=>by kernel_rfl)
theorem zbK(h:c0 G 20 30):eF cZ G 28 K2:=gD h.i _ rfl (by kernel_rfl) (fun x=>by kernel_rfl) (fun x=>by kernel_rfl)
theorem zbL(h:c0 G 28 30):eF cZ G 138 La:=yG h.i _ rfl (by kernel_rfl) (fun x=>by kernel_rfl)
theorem zbM(h:c0 G 36 30):eF cZ G 31 Li:=gD h.i _ rfl (by kernel_rfl) (fun x=>by kernel_rfl) (fun x=>by kernel_rfl)
end
end Go.aK
open Go Go.aK Go.fb
namespace Go.aK
section
variable {G:aR}
theorem zbN(h:c0 G 3 0):gC cZ G 37 130 Kh:=wI h.hk _ rfl (by kernel_rfl) (fun x=>by kernel_rfl)
theorem zbO(h:c0 G 5 6):eF cZ G 183 Kp:=yG h.i _ rfl (by kernel_rfl) (fun x=>by kernel_rfl)
theorem zbP(h:c0 G 6 13):gC cZ G 71 130 Kx:=jx h.hk _ rfl (by kernel_rfl) (fun x=>by kernel_rfl) (fun x=>by kernel_rfl)
theorem zbQ(h:c0 G 7 20):gC cZ G 74 143 KF:=jx h.hk _ rfl (by kernel_rfl) (fun x=>by kernel_rfl) (fun x=>by kernel_rfl)
theorem zbR(h:c0 G 8 27):gC cZ G 76 143 KN:=jx h.hk _ rfl (by kernel_rfl) (fun x=>by kernel_rfl) (fun x=>by kernel_rfl)
theorem zbS(h:c0 G 13 30):eF cZ G 45 KV:=gD h.i _ rfl (by kernel_rfl) (fun x=>by kernel_rfl) (fun x=>by kernel_rfl)
theorem zbT(h:c0 G 21 30):eF cZ G 9 K3:=gD h.i _ rfl (by kernel_rfl) (fun x=>by kernel_rfl) (fun x=>by kernel_rfl)
theorem zbU(h:c0 G 29 30):eF cZ G 93 Lb:=gD h.i _ rfl (by kernel_rfl) (fun x=>by kernel_rfl) (fun x=>by kernel_rfl)
theorem zbV(h:c0 G 37 30):eF cZ G 33 Lj:=gD h.i _ rfl (by kernel_rfl) (fun x=>by kernel_rfl) (fun x=>by kernel_rfl)
end
end Go.aK
open Go Go.aK Go.fb
namespace Go.aK
section
variable {G:aR}
theorem zbW(h:c0 G 3 1):eF cZ G 97 Ki:=gD h.i _ rfl (by kernel_rfl) (fun x=>by kernel_rfl) (fun x=>by kernel_rfl)
theorem zbX(h:c0 G 6 6):gC cZ G 181 130 Kq:=jx h.hk _ rfl (by kernel_rfl) (fun x=>by kernel_rfl) (fun x=>by kernel_rfl)
theorem zbY(h:c0 G 6 14):gC cZ G 73 130 Ky:=wI h.hk _ rfl (by kernel_rfl) (fun x=>by kernel_rfl)
theorem zbZ(h:c0 G 7 21):gC cZ G 42 143 KG:=wI h.hk _ rfl (by kernel_rfl) (fun x=>by kernel_rfl)
theorem zb0(h:c0 G 8 28):gC cZ G 78 143 KO:=jx h.hk _ rfl (by kernel_rfl) (fun x=>by kernel_rfl) (fun x=>by kernel_rfl)
theorem zb1(h:c0 G 14 30):eF cZ G 136 KW:=gD h.i _ rfl (by kernel_rfl) (fun x=>by kernel_rfl) (fun x=>by kernel_rfl)
theorem zb2(h:c0 G 22 30):eF cZ G 48 K4:=gD h.i _ rfl (by kernel_rfl) (fun x=>by kernel_rfl) (fun x=>by kernel_rfl)
theorem zb3(h:c0 G 30 30):eF cZ G 95 Lc:=gD h.i _ rfl (by kernel_rfl) (fun x=>by kernel_rfl) (fun x=>by kernel_rfl)
theorem zb4(h:c0 G 38 30):eF cZ G 35 Lk:=gD h.i _ rfl (by kernel_rfl) (fun x=>by kernel_rfl) (fun x=>by kernel_rfl)
end
end Go.aK
open Go Go.aK Go.fb
namespace Go.aK
section
variable {G:aR}
theorem zb5(h:c0 G 4 1):gC cZ G 36 130 Kj:=jx h.hk _ rfl (by kernel_rfl) (fun x=>by kernel_rfl) (fun x=>by kernel_rfl)
theorem zb6(h:c0 G 6 7):gC cZ G 127 130 Kr:=jx h.hk _ rfl (by kernel_rfl) (fun x=>by kernel_rfl) (fun x=>by kernel_rfl)
theorem zb7(h:c0 G 6 15):gC cZ G 72 130 Kz:=jx h.hk _ rfl (by kernel_rfl) (fun x=>by kernel_rfl) (fun x=>by kernel_rfl)
theorem zb8(h:c0 G 7 22):eF cZ G 182 KH:=yG h.i _ rfl (by kernel_rfl) (fun x=>by kernel_rfl)
theorem zb9(h:c0 G 8 29):gC cZ G 26 143 KP:=wI h.hk _ rfl (by kernel_rfl) (fun x=>by kernel_rfl)
theorem zca(h:c0 G 15 30):eF cZ G 137 KX:=yG h.i _ rfl (by kernel_rfl) (fun x=>by kernel_rfl)
theorem zcb(h:c0 G 23 30):eF cZ G 90 K5:=gD h.i _ rfl (by kernel_rfl) (fun x=>by kernel_rfl) (fun x=>by kernel_rfl)
theorem zcc(h:c0 G 31 30):eF cZ G 30 Ld:=gD h.i _ rfl (by kernel_rfl) (fun x=>by kernel_rfl) (fun x=>by kernel_rfl)
theorem zcd(h:c0 G 39 30):eF cZ G 34 Ll:=gD h.i _ rfl (by kernel_rfl) (fun x=>by kernel_rfl) (fun x=>by kernel_rfl)
end
end Go.aK
open Go Go.aK Go.fb
namespace Go.aK
section
variable {G:aR}
theorem zce(h:c0 G 4 2):gC cZ G 99 130 Kk:=jx h.hk _ rfl (by kernel_rfl) (fun x=>by kernel_rfl) (fun x=>by kernel_rfl)
theorem zcf(h:c0 G 6 8):gC cZ G 63 130 Ks:=jx h.hk _ rfl (by kernel_rfl) (fun x=>by kernel_rfl) (fun x=>by kernel_rfl)
theorem zcg(h:c0 G 6 16):gC cZ G 23 130 KA:=wI h.hk _ rfl (by kernel_rfl) (fun x=>by kernel_rfl)
theorem zch(h:c0 G 8 22):gC cZ G 133 143 KI:=jx h.hk _ rfl (by kernel_rfl) (fun x=>by kernel_rfl) (fun x=>by kernel_rfl)
theorem zci(h:c0 G 8 30):eF cZ G 8 KQ:=gD h.i _ rfl (by kernel_rfl) (fun x=>by kernel_rfl) (fun x=>by kernel_rfl)
theorem zcj(h:c0 G 16 30):eF cZ G 84 KY:=gD h.i _ rfl (by kernel_rfl) (fun x=>by kernel_rfl) (fun x=>by kernel_rfl)
theorem zck(h:c0 G 24 30):eF cZ G 139 K6:=gD h.i _ rfl (by kernel_rfl) (fun x=>by kernel_rfl) (fun x=>by kernel_rfl)
theorem zcl(h:c0 G 32 30):eF cZ G 10 Le:=gD h.i _ rfl (by kernel_rfl) (fun x=>by kernel_rfl) (fun x=>by kernel_rfl)
theorem zcm(h:c0 G 40 30):eF cZ G 11 Lm:=gD h.i _ rfl (by kernel_rfl) (fun x=>by kernel_rfl) (fun x=>by kernel_rfl)
end
end Go.aK
open Go Go.aK Go.fb
namespace Go.aK
section
variable {G:aR}
theorem zcn(h:c0 G 4 3):gC cZ G 69 130 Kl:=jx h.hk _ rfl (by kernel_rfl) (fun x=>by kernel_rfl) (fun x=>by kernel_rfl)
theorem zco(h:c0 G 6 9):gC cZ G 129 130 Kt:=jx h.hk _ rfl (by kernel_rfl) (fun x=>by kernel_rfl) (fun x=>by kernel_rfl)
theorem zcp(h:c0 G 6 17):eF cZ G 7 KB:=gD h.i _ rfl (by kernel_rfl) (fun x=>by kernel_rfl) (fun x=>by kernel_rfl)
theorem zcq(h:c0 G 8 23):gC cZ G 77 143 KJ:=jx h.hk _ rfl (by kernel_rfl) (fun x=>by kernel_rfl) (fun x=>by kernel_rfl)
theorem zcr(h:c0 G 9 30):eF cZ G 46 KR:=gD h.i _ rfl (by kernel_rfl) (fun x=>by kernel_rfl) (fun x=>by kernel_rfl)
theorem zcs(h:c0 G 17 30):eF cZ G 86 KZ:=gD h.i _ rfl (by kernel_rfl) (fun x=>by kernel_rfl) (fun x=>by kernel_rfl)
theorem zct(h:c0 G 25 30):eF cZ G 94 K7:=gD h.i _ rfl (by kernel_rfl) (fun x=>by kernel_rfl) (fun x=>by kernel_rfl)
theorem zcu(h:c0 G 33 30):eF cZ G 32 Lf:=gD h.i _ rfl (by kernel_rfl) (fun x=>by kernel_rfl) (fun x=>by kernel_rfl)
theorem zcv(h:c0 G 41 30):eF cZ G 3 rF:=gD h.i _ rfl (by kernel_rfl) (fun x=>by kernel_rfl) (fun x=>by kernel_rfl)
end
end Go.aK
open Go Go.aK Go.fb
namespace Go.aK
section
variable {G:aR}
theorem zcw(h:c0 G 4 4):gC cZ G 61 130 Km:=jx h.hk _ rfl (by kernel_rfl) (fun x=>by kernel_rfl) (fun x=>by kernel_rfl)
theorem zcx(h:c0 G 6 10):gC cZ G 130 130 Ku:=jx h.hk _ rfl (by kernel_rfl) (fun x=>by kernel_rfl) (fun x=>by kernel_rfl)
theorem zcy(h:c0 G 7 17):gC cZ G 41 143 KC:=wI h.hk _ rfl (by kernel_rfl) (fun x=>by kernel_rfl)
theorem zcz(h:c0 G 8 24):gC cZ G 44 143 KK:=jx h.hk _ rfl (by kernel_rfl) (fun x=>by kernel_rfl) (fun x=>by kernel_rfl)
theorem zcA(h:c0 G 10 30):eF cZ G 80 KS:=gD h.i _ rfl (by kernel_rfl) (fun x=>by kernel_rfl) (fun x=>by kernel_rfl)
theorem zcB(h:c0 G 18 30):eF cZ G 88 K0:=gD h.i _ rfl (by kernel_rfl) (fun x=>by kernel_rfl) (fun x=>by kernel_rfl)
theorem zcC(h:c0 G 26 30):eF cZ G 91 K8:=gD h.i _ rfl (by kernel_rfl) (fun x=>by kernel_rfl) (fun x=>by kernel_rfl)
theorem zcD(h:c0 G 34 30):eF cZ G 140 Lg:=gD h.i _ rfl (by kernel_rfl) (fun x=>by kernel_rfl) (fun x=>by kernel_rfl)
end
end Go.aK
