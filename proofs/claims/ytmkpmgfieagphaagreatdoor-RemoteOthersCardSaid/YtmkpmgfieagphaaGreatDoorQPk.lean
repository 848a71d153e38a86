/- The contracts of chapter 49, all of them. Conditions: none. -/
import Derived.Shelf.Strings.Builder1
import Derived.Test.YtmkpmgfieagphaaGreatDoorQTEk
import Derived.Test.YtmkpmgfieagphaaGreatDoorQPz
import Derived.Test.YtmkpmgfieagphaaGreatDoorQPh
import Derived.Test.YtmkpmgfieagphaaGreatDoorQPi
import Derived.Test.YtmkpmgfieagphaaGreatDoorQPj
namespace Go.Proofs
open Go.Shelf
def Tryz.OJ:Go.Shelf.Ren:=⟨fun|169=>60|n=>n,fun|70=>105|9=>9|0=>0|72=>108|37=>106|127=>181|3=>3|5=>5|n=>n,fun|n=>n⟩
theorem Tryz.OK:Go.Proofs.Lays.n169 Tryz.prog Tryz.OJ:={
 mixed:=by kernel_rfl
 f169:=Tryz.func60.trans (congrArg some (by kernel_rfl))
 t0:=Tryz.underlying0
 a0:=Tryz.isAgg0
 z0:=Tryz.sizeOf0
 v0:=Tryz.zeroValue0
 t3:=Tryz.underlying3
 a3:=Tryz.isAgg3
 z3:=Tryz.sizeOf3
 v3:=Tryz.zeroValue3
 t9:=Tryz.underlying9
 a9:=Tryz.isAgg9
 z9:=Tryz.sizeOf9
 v9:=Tryz.zeroValue9
 t37:=Tryz.underlying106
 a37:=Tryz.isAgg106
 z37:=Tryz.sizeOf106
 v37:=Tryz.zeroValue106
 t70:=Tryz.underlying105
 a70:=Tryz.isAgg105
 z70:=Tryz.sizeOf105
 v70:=Tryz.zeroValue105
 t72:=Tryz.underlying108
 a72:=Tryz.isAgg108
 z72:=Tryz.sizeOf108
 v72:=Tryz.zeroValue108
 t127:=Tryz.underlying181
 a127:=Tryz.isAgg181
 z127:=Tryz.sizeOf181
 v127:=Tryz.zeroValue181}
theorem Tryz.OL:Builder.Extra Tryz.prog Tryz.OJ:={
 sizeBuilder:=by kernel_rfl
 liesBuilder:=by kernel_rfl
 t5:=Tryz.underlying5
 a5:=Tryz.isAgg5
 z5:=Tryz.sizeOf5
 v5:=Tryz.zeroValue5
 infoByte:=by kernel_rfl
 cellsByte:=by kernel_rfl
 sizeByte:=by kernel_rfl
 neB5:=by decide}
end Go.Proofs
open Go Go.aK Go.eO Go.Proofs
namespace Go.aK
theorem BL{G:a8}:tz bj G 60 108 5:=⟨fun bb ag=>Zr Tryz.OK Tryz.OL bb ag,fun bb=>Zs Tryz.OK Tryz.OL bb⟩
theorem OM{G:a8}: ∀r∈BM,na bj G r:=fun r ag=>by
 rcases List.mem_cons.1 ag with rfl|ag
 ·exact YV
 ·rw[List.mem_singleton]at ag
  subst ag;exact Y0
theorem ON{G:a8}: ∀r∈yp,tn bj G r:=fun r ag=>by
 rw[yp,List.mem_singleton]at ag
 subst ag
 exact YW
def UH(G:a8):Prop:=G 0=some (lG.map fun s=>a1.v (.string s))
end Go.aK
