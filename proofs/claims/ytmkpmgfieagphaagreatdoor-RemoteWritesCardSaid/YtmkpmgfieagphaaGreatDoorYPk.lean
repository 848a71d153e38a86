/- The contracts of chapter 49, all of them. Conditions: none. -/
import Derived.Shelf.Strings.Builder1
import Derived.Test.YtmkpmgfieagphaaGreatDoorYTEk
import Derived.Test.YtmkpmgfieagphaaGreatDoorYPz
import Derived.Test.YtmkpmgfieagphaaGreatDoorYPh
import Derived.Test.YtmkpmgfieagphaaGreatDoorYPi
import Derived.Test.YtmkpmgfieagphaaGreatDoorYPj
namespace Go.Proofs
open Go.Shelf
def Tryz.Qp:Go.Shelf.Ren:=⟨fun|169=>60|n=>n,fun|70=>105|9=>9|0=>0|72=>108|37=>106|127=>181|3=>3|5=>5|n=>n,fun|n=>n⟩
theorem Tryz.Qq:Go.Proofs.Lays.n169 Tryz.prog Tryz.Qp:={
 mixed:=by kernel_rfl
 f169:=Tryz.func60.trans (congrArg some (by kernel_rfl))
 t0:=Tryz.underlying0
 a0:=Tryz.isAgg0
 z0:=Tryz.sizeOf0
 v0:=Tryz.zeroValue0
 t3:=Tryz.underlying3
 a3:=Tryz.isAgg3
 z3:=Tryz.sizeOf3
 v3:=Tryz.zeroValue3
 t9:=Tryz.underlying9
 a9:=Tryz.isAgg9
 z9:=Tryz.sizeOf9
 v9:=Tryz.zeroValue9
 t37:=Tryz.underlying106
 a37:=Tryz.isAgg106
 z37:=Tryz.sizeOf106
 v37:=Tryz.zeroValue106
 t70:=Tryz.underlying105
 a70:=Tryz.isAgg105
 z70:=Tryz.sizeOf105
 v70:=Tryz.zeroValue105
 t72:=Tryz.underlying108
 a72:=Tryz.isAgg108
 z72:=Tryz.sizeOf108
 v72:=Tryz.zeroValue108
 t127:=Tryz.underlying181
 a127:=Tryz.isAgg181
 z127:=Tryz.sizeOf181
 v127:=Tryz.zeroValue181}
theorem Tryz.Qr:Builder.Extra Tryz.prog Tryz.Qp:={
 sizeBuilder:=by kernel_rfl
 liesBuilder:=by kernel_rfl
 t5:=Tryz.underlying5
 a5:=Tryz.isAgg5
 z5:=Tryz.sizeOf5
 v5:=Tryz.zeroValue5
 infoByte:=by kernel_rfl
 cellsByte:=by kernel_rfl
 sizeByte:=by kernel_rfl
 neB5:=by decide}
end Go.Proofs
open Go Go.aO Go.eK Go.Proofs
namespace Go.aO
theorem Qs{G:bd}:tX bj G 60 108 5:=⟨fun bh ag=>zaz Tryz.Qq Tryz.Qr bh ag,fun bh=>zaA Tryz.Qq Tryz.Qr bh⟩
theorem zaB{G:bd}: ∀r∈y8,nr bj G r:=fun r ag=>by
 rcases List.mem_cons.1 ag with rfl|ag
 ·exact ZZ
 ·rw[List.mem_singleton]at ag
  subst ag;exact Z4
theorem zaC{G:bd}: ∀r∈vZ,tQ bj G r:=fun r ag=>by
 rw[vZ,List.mem_singleton]at ag
 subst ag
 exact Z0
def Wc(G:bd):Prop:=G 0=some (lN.map fun s=>bb.v (.string s))
end Go.aO
