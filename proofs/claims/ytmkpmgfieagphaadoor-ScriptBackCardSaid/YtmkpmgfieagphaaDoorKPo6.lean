/- Contracts. Conditions: none. -/
import Derived.Test.YtmkpmgfieagphaaDoorKPn
open Go Go.aG Go.du
namespace Go.aG
section
variable {G:aY}
theorem QY(h:cU G 0 0):df cN G 13 Cu:=mS h.i _ rfl (by kernel_rfl) (fun x=>by kernel_rfl)
theorem QZ(h:cU G 7 0):df cN G 20 CB:=fx h.i _ rfl (by kernel_rfl) (fun x=>by kernel_rfl) (fun x=>by kernel_rfl)
theorem Q0(h:cU G 9 5):lA cN G 50 109 CI:=yY h.i _ rfl (by kernel_rfl) (fun x=>by kernel_rfl) (fun x=>by kernel_rfl)
theorem Q1(h:cU G 13 8):df cN G 32 CP:=fx h.i _ rfl (by kernel_rfl) (fun x=>by kernel_rfl) (fun x=>by kernel_rfl)
theorem Q2(h:cU G 21 8):df cN G 35 CW:=fx h.i _ rfl (by kernel_rfl) (fun x=>by kernel_rfl) (fun x=>by kernel_rfl)
theorem Q3(h:cU G 28 8):df cN G 43 C3:=mS h.i _ rfl (by kernel_rfl) (fun x=>by kernel_rfl)
theorem Q4(h:cU G 35 8):df cN G 46 Da:=fx h.i _ rfl (by kernel_rfl) (fun x=>by kernel_rfl) (fun x=>by kernel_rfl)
theorem Q5(h:cU G 42 8):df cN G 9 Dh:=fx h.i _ rfl (by kernel_rfl) (fun x=>by kernel_rfl) (fun x=>by kernel_rfl)
end
end Go.aG
open Go Go.aG Go.du
namespace Go.aG
section
variable {G:aY}
theorem Q6(h:cU G 1 0):df cN G 14 Cv:=mS h.i _ rfl (by kernel_rfl) (fun x=>by kernel_rfl)
theorem Q7(h:cU G 8 0):lA cN G 68 109 CC:=yZ h.i _ rfl (by kernel_rfl) (fun x=>by kernel_rfl)
theorem Q8(h:cU G 9 6):lA cN G 72 109 CJ:=yZ h.i _ rfl (by kernel_rfl) (fun x=>by kernel_rfl)
theorem Q9(h:cU G 14 8):df cN G 34 CQ:=fx h.i _ rfl (by kernel_rfl) (fun x=>by kernel_rfl) (fun x=>by kernel_rfl)
theorem Ra(h:cU G 22 8):df cN G 17 CX:=fx h.i _ rfl (by kernel_rfl) (fun x=>by kernel_rfl) (fun x=>by kernel_rfl)
theorem Rb(h:cU G 29 8):df cN G 81 C4:=mS h.i _ rfl (by kernel_rfl) (fun x=>by kernel_rfl)
theorem Rc(h:cU G 36 8):df cN G 29 Db:=fx h.i _ rfl (by kernel_rfl) (fun x=>by kernel_rfl) (fun x=>by kernel_rfl)
theorem Re(h:cU G 43 8):df cN G 3 nT:=fx h.i _ rfl (by kernel_rfl) (fun x=>by kernel_rfl) (fun x=>by kernel_rfl)
end
end Go.aG
open Go Go.aG Go.du
namespace Go.aG
section
variable {G:aY}
theorem Rf(h:cU G 2 0):df cN G 37 Cw:=fx h.i _ rfl (by kernel_rfl) (fun x=>by kernel_rfl) (fun x=>by kernel_rfl)
theorem Rg(h:cU G 8 1):df cN G 69 CD:=fx h.i _ rfl (by kernel_rfl) (fun x=>by kernel_rfl) (fun x=>by kernel_rfl)
theorem Rh(h:cU G 9 7):lA cN G 52 109 CK:=yZ h.i _ rfl (by kernel_rfl) (fun x=>by kernel_rfl)
theorem Ri(h:cU G 15 8):df cN G 15 CR:=fx h.i _ rfl (by kernel_rfl) (fun x=>by kernel_rfl) (fun x=>by kernel_rfl)
theorem Rj(h:cU G 23 8):df cN G 19 CY:=fx h.i _ rfl (by kernel_rfl) (fun x=>by kernel_rfl) (fun x=>by kernel_rfl)
theorem Rk(h:cU G 30 8):df cN G 76 C5:=fx h.i _ rfl (by kernel_rfl) (fun x=>by kernel_rfl) (fun x=>by kernel_rfl)
theorem Rl(h:cU G 37 8):df cN G 12 Dc:=fx h.i _ rfl (by kernel_rfl) (fun x=>by kernel_rfl) (fun x=>by kernel_rfl)
end
end Go.aG
open Go Go.aG Go.du
namespace Go.aG
section
variable {G:aY}
theorem Rm(h:cU G 3 0):df cN G 38 Cx:=fx h.i _ rfl (by kernel_rfl) (fun x=>by kernel_rfl) (fun x=>by kernel_rfl)
theorem Rn(h:cU G 9 1):lA cN G 48 109 CE:=yY h.i _ rfl (by kernel_rfl) (fun x=>by kernel_rfl) (fun x=>by kernel_rfl)
theorem Ro(h:cU G 9 8):df cN G 54 CL:=mS h.i _ rfl (by kernel_rfl) (fun x=>by kernel_rfl)
theorem Rp(h:cU G 17 8):df cN G 21 CS:=fx h.i _ rfl (by kernel_rfl) (fun x=>by kernel_rfl) (fun x=>by kernel_rfl)
theorem Rq(h:cU G 24 8):df cN G 6 CZ:=fx h.i _ rfl (by kernel_rfl) (fun x=>by kernel_rfl) (fun x=>by kernel_rfl)
theorem Rr(h:cU G 31 8):df cN G 67 C6:=fx h.i _ rfl (by kernel_rfl) (fun x=>by kernel_rfl) (fun x=>by kernel_rfl)
theorem Rs(h:cU G 38 8):df cN G 5 Dd:=fx h.i _ rfl (by kernel_rfl) (fun x=>by kernel_rfl) (fun x=>by kernel_rfl)
end
end Go.aG
open Go Go.aG Go.du
namespace Go.aG
section
variable {G:aY}
theorem Rt(h:cU G 4 0):df cN G 59 Cy:=mS h.i _ rfl (by kernel_rfl) (fun x=>by kernel_rfl)
theorem Ru(h:cU G 9 2):lA cN G 70 109 CF:=yY h.i _ rfl (by kernel_rfl) (fun x=>by kernel_rfl) (fun x=>by kernel_rfl)
theorem Rv(h:cU G 10 8):df cN G 56 CM:=mS h.i _ rfl (by kernel_rfl) (fun x=>by kernel_rfl)
theorem Rw(h:cU G 18 8):df cN G 18 CT:=fx h.i _ rfl (by kernel_rfl) (fun x=>by kernel_rfl) (fun x=>by kernel_rfl)
theorem Rx(h:cU G 25 8):df cN G 63 C0:=mS h.i _ rfl (by kernel_rfl) (fun x=>by kernel_rfl)
theorem Ry(h:cU G 32 8):df cN G 45 C7:=fx h.i _ rfl (by kernel_rfl) (fun x=>by kernel_rfl) (fun x=>by kernel_rfl)
theorem Rz(h:cU G 39 8):df cN G 8 De:=fx h.i _ rfl (by kernel_rfl) (fun x=>by kernel_rfl) (fun x=>by kernel_rfl)
end
end Go.aG
open Go Go.aG Go.du
namespace Go.aG
section
variable {G:aY}
theorem RA(h:cU G 5 0):df cN G 33 Cz:=mS h.i _ rfl (by kernel_rfl) (fun x=>by kernel_rfl)
theorem RB(h:cU G 9 3):lA cN G 49 109 CG:=yY h.i _ rfl (by kernel_rfl) (fun x=>by kernel_rfl) (fun x=>by kernel_rfl)
theorem RD(h:cU G 11 8):df cN G 30 CN:=fx h.i _ rfl (by kernel_rfl) (fun x=>by kernel_rfl) (fun x=>by kernel_rfl)
theorem RE(h:cU G 19 8):df cN G 16 CU:=fx h.i _ rfl (by kernel_rfl) (fun x=>by kernel_rfl) (fun x=>by kernel_rfl)
theorem RF(h:cU G 26 8):df cN G 57 C1:=mS h.i _ rfl (by kernel_rfl) (fun x=>by kernel_rfl)
theorem RG(h:cU G 33 8):df cN G 27 C8:=fx h.i _ rfl (by kernel_rfl) (fun x=>by kernel_rfl) (fun x=>by kernel_rfl)
theorem RH(h:cU G 40 8):df cN G 4 Df:=fx h.i _ rfl (by kernel_rfl) (fun x=>by kernel_rfl) (fun x=>by kernel_rfl)
end
end Go.aG
open Go Go.aG Go.du
namespace Go.aG
section
variable {G:aY}
theorem RI(h:cU G 6 0):df cN G 39 CA:=fx h.i _ rfl (by kernel_rfl) (fun x=>by kernel_rfl) (fun x=>by kernel_rfl)
theorem RJ(h:cU G 9 4):lA cN G 71 109 CH:=yZ h.i _ rfl (by kernel_rfl) (fun x=>by kernel_rfl)
theorem RK(h:cU G 12 8):df cN G 58 CO:=mS h.i _ rfl (by kernel_rfl) (fun x=>by kernel_rfl)
theorem RL(h:cU G 20 8):df cN G 60 CV:=fx h.i _ rfl (by kernel_rfl) (fun x=>by kernel_rfl) (fun x=>by kernel_rfl)
theorem RM(h:cU G 27 8):df cN G 31 C2:=fx h.i _ rfl (by kernel_rfl) (fun x=>by kernel_rfl) (fun x=>by kernel_rfl)
theorem RN(h:cU G 34 8):df cN G 28 C9:=fx h.i _ rfl (by kernel_rfl) (fun x=>by kernel_rfl) (fun x=>by kernel_rfl)
theorem RO(h:cU G 41 8):df cN G 7 Dg:=fx h.i _ rfl (by kernel_rfl) (fun x=>by kernel_rfl) (fun x=>by kernel_rfl)
end
end Go.aG
