/- The contracts of chapter 49, all of them. Conditions: none. -/
import Derived.Shelf.Strings.Builder1
import Derived.Test.YtmkpmgfieagphaaGreatDoorHTEk
import Derived.Test.YtmkpmgfieagphaaGreatDoorHPz
import Derived.Test.YtmkpmgfieagphaaGreatDoorHPh
import Derived.Test.YtmkpmgfieagphaaGreatDoorHPi
import Derived.Test.YtmkpmgfieagphaaGreatDoorHPj
namespace Go.Proofs
open Go.Shelf
def Tryz.RZ:Go.Shelf.Ren:=⟨fun|169=>60|n=>n,fun|70=>105|9=>9|0=>0|72=>108|37=>106|127=>181|3=>3|5=>5|n=>n,fun|n=>n⟩
theorem Tryz.R0:Go.Proofs.Lays.n169 Tryz.prog Tryz.RZ:={
 mixed:=by kernel_rfl
 f169:=Tryz.func60.trans (congrArg some (by kernel_rfl))
 t0:=Tryz.underlying0
 a0:=Tryz.isAgg0
 z0:=Tryz.sizeOf0
 v0:=Tryz.zeroValue0
 t3:=Tryz.underlying3
 a3:=Tryz.isAgg3
 z3:=Tryz.sizeOf3
 v3:=Tryz.zeroValue3
 t9:=Tryz.underlying9
 a9:=Tryz.isAgg9
 z9:=Tryz.sizeOf9
 v9:=Tryz.zeroValue9
 t37:=Tryz.underlying106
 a37:=Tryz.isAgg106
 z37:=Tryz.sizeOf106
 v37:=Tryz.zeroValue106
 t70:=Tryz.underlying105
 a70:=Tryz.isAgg105
 z70:=Tryz.sizeOf105
 v70:=Tryz.zeroValue105
 t72:=Tryz.underlying108
 a72:=Tryz.isAgg108
 z72:=Tryz.sizeOf108
 v72:=Tryz.zeroValue108
 t127:=Tryz.underlying181
 a127:=Tryz.isAgg181
 z127:=Tryz.sizeOf181
 v127:=Tryz.zeroValue181}
theorem Tryz.R1:Builder.Extra Tryz.prog Tryz.RZ:={
 sizeBuilder:=by kernel_rfl
 liesBuilder:=by kernel_rfl
 t5:=Tryz.underlying5
 a5:=Tryz.isAgg5
 z5:=Tryz.sizeOf5
 v5:=Tryz.zeroValue5
 infoByte:=by kernel_rfl
 cellsByte:=by kernel_rfl
 sizeByte:=by kernel_rfl
 neB5:=by decide}
end Go.Proofs
open Go Go.aN Go.eg Go.Proofs
namespace Go.aN
theorem R2{G:bc}:uS bf G 60 108 5:=⟨fun bj ag=>zcI Tryz.R0 Tryz.R1 bj ag,fun bj=>zcJ Tryz.R0 Tryz.R1 bj⟩
theorem zcK{G:bc}: ∀r∈DZ,nU bf G r:=fun r ag=>by
 rcases List.mem_cons.1 ag with rfl|ag
 ·exact zb8
 ·rw[List.mem_singleton]at ag
  subst ag;exact zcd
theorem zcL{G:bc}: ∀r∈Aq,uL bf G r:=fun r ag=>by
 rw[Aq,List.mem_singleton]at ag
 subst ag
 exact zb9
def Xx(G:bc):Prop:=G 0=some (l6.map fun s=>ba.v (.string s))
end Go.aN
