/- Conditions: none. -/
import Derived.Shelf.Strings.Builder1
import Derived.Shelf.SlicesE.Clone
import Derived.Test.YtddeffoppnlafaaGreatJCEi
import Derived.Test.YtddeffoppnlafaaGreatJTEf
import Derived.Test.YtddeffoppnlafaaGreatProg
namespace Go.Proofs
open Go.Shelf
def Tryz.zd9:Go.Shelf.Ren:=⟨fun|41=>160|n=>n,fun|4=>4|22=>45|23=>209|n=>n,fun|n=>n⟩
theorem Tryz.zea:Go.Proofs.SlLaysE0.n41 Tryz.prog Tryz.zd9:={
 mixed:=by kernel_rfl
 f41:=⟨"slices.Clone[[]homehub/api.Span,homehub/api.Span]",by kernel_rfl,Tryz.func160.trans (congrArg some (by kernel_rfl))⟩
 t4:=Tryz.underlying4
 a4:=Tryz.isAgg4
 z4:=Tryz.sizeOf4
 v4:=Tryz.zeroValue4
 t22:=Tryz.underlying45
 a22:=Tryz.isAgg45
 z22:=Tryz.sizeOf45
 v22:=Tryz.zeroValue45}
def Tryz.zeb:Go.Shelf.Ren:=⟨fun|41=>161|n=>n,fun|4=>4|22=>23|23=>9|n=>n,fun|n=>n⟩
theorem Tryz.zec:Go.Proofs.SlLaysE0.n41 Tryz.prog Tryz.zeb:={
 mixed:=by kernel_rfl
 f41:=⟨"slices.Clone[[]string,string]",by kernel_rfl,Tryz.func161.trans (congrArg some (by kernel_rfl))⟩
 t4:=Tryz.underlying4
 a4:=Tryz.isAgg4
 z4:=Tryz.sizeOf4
 v4:=Tryz.zeroValue4
 t22:=Tryz.underlying23
 a22:=Tryz.isAgg23
 z22:=Tryz.sizeOf23
 v22:=Tryz.zeroValue23}
def Tryz.zed:Go.Shelf.Ren:=⟨fun|41=>203|n=>n,fun|4=>4|22=>112|23=>111|n=>n,fun|n=>n⟩
theorem Tryz.zee:Go.Proofs.SlLaysE0.n41 Tryz.prog Tryz.zed:={
 mixed:=by kernel_rfl
 f41:=⟨"slices.Clone[[]homehub/api.Attr,homehub/api.Attr]",by kernel_rfl,Tryz.func203.trans (congrArg some (by kernel_rfl))⟩
 t4:=Tryz.underlying4
 a4:=Tryz.isAgg4
 z4:=Tryz.sizeOf4
 v4:=Tryz.zeroValue4
 t22:=Tryz.underlying112
 a22:=Tryz.isAgg112
 z22:=Tryz.sizeOf112
 v22:=Tryz.zeroValue112}
def Tryz.zef:Go.Shelf.Ren:=⟨fun|41=>204|n=>n,fun|4=>4|22=>113|23=>292|n=>n,fun|n=>n⟩
theorem Tryz.zeg:Go.Proofs.SlLaysE0.n41 Tryz.prog Tryz.zef:={
 mixed:=by kernel_rfl
 f41:=⟨"slices.Clone[[]homehub/api.Command,homehub/api.Command]",by kernel_rfl,Tryz.func204.trans (congrArg some (by kernel_rfl))⟩
 t4:=Tryz.underlying4
 a4:=Tryz.isAgg4
 z4:=Tryz.sizeOf4
 v4:=Tryz.zeroValue4
 t22:=Tryz.underlying113
 a22:=Tryz.isAgg113
 z22:=Tryz.sizeOf113
 v22:=Tryz.zeroValue113}
def Tryz.zeh:Go.Shelf.Ren:=⟨fun|41=>205|n=>n,fun|4=>4|22=>290|23=>295|n=>n,fun|n=>n⟩
theorem Tryz.zei:Go.Proofs.SlLaysE0.n41 Tryz.prog Tryz.zeh:={
 mixed:=by kernel_rfl
 f41:=⟨"slices.Clone[[]homehub/api.Effect,homehub/api.Effect]",by kernel_rfl,Tryz.func205.trans (congrArg some (by kernel_rfl))⟩
 t4:=Tryz.underlying4
 a4:=Tryz.isAgg4
 z4:=Tryz.sizeOf4
 v4:=Tryz.zeroValue4
 t22:=Tryz.underlying290
 a22:=Tryz.isAgg290
 z22:=Tryz.sizeOf290
 v22:=Tryz.zeroValue290}
def Tryz.Uy:Go.Shelf.Ren:=⟨fun|169=>29|n=>n,fun|70=>80|9=>9|0=>0|72=>83|37=>81|127=>157|3=>3|5=>5|n=>n,fun|n=>n⟩
theorem Tryz.Uz:Go.Proofs.Lays.n169 Tryz.prog Tryz.Uy:={
 mixed:=by kernel_rfl
 f169:=Tryz.func29.trans (congrArg some (by kernel_rfl))
 t0:=Tryz.underlying0
 a0:=Tryz.isAgg0
 z0:=Tryz.sizeOf0
 v0:=Tryz.zeroValue0
 t3:=Tryz.underlying3
 a3:=Tryz.isAgg3
 z3:=Tryz.sizeOf3
 v3:=Tryz.zeroValue3
 t9:=Tryz.underlying9
 a9:=Tryz.isAgg9
 z9:=Tryz.sizeOf9
 v9:=Tryz.zeroValue9
 t37:=Tryz.underlying81
 a37:=Tryz.isAgg81
 z37:=Tryz.sizeOf81
 v37:=Tryz.zeroValue81
 t70:=Tryz.underlying80
 a70:=Tryz.isAgg80
 z70:=Tryz.sizeOf80
 v70:=Tryz.zeroValue80
 t72:=Tryz.underlying83
 a72:=Tryz.isAgg83
 z72:=Tryz.sizeOf83
 v72:=Tryz.zeroValue83
 t127:=Tryz.underlying157
 a127:=Tryz.isAgg157
 z127:=Tryz.sizeOf157
 v127:=Tryz.zeroValue157
 }
theorem Tryz.UA:Builder.Extra Tryz.prog Tryz.Uy:={
 sizeBuilder:=by kernel_rfl
 liesBuilder:=by kernel_rfl
 t5:=Tryz.underlying5
 a5:=Tryz.isAgg5
 z5:=Tryz.sizeOf5
 v5:=Tryz.zeroValue5
 infoByte:=by kernel_rfl
 cellsByte:=by kernel_rfl
 sizeByte:=by kernel_rfl
 neB5:=by decide}
end Go.Proofs
open Go Go.aH Go.eT Go.Proofs
namespace Go.aH
@[reducible] noncomputable def iT:Program:=Go.Proofs.Tryz.prog
@[reducible] def lq:aV:=λ_=>none
def oD:List FuncId:=[60]
theorem Tt{G:aV}:AP iT G 29 83 5:=⟨λbq ah=>zej Tryz.Uz Tryz.UA bq ah,λbq=>zek Tryz.Uz Tryz.UA bq⟩
theorem zel{G:aV}:wJ iT G 160 209 2 16:=by
 obtain⟨i,z,_,hi,aW,ao,af,jk,hn⟩:=tD (P:=iT) (t:=45) (e:=209) (n:=2) (bytes:=16) (by kernel_rfl)
 exact DK Tryz.zea i z 16 hi aW ao af jk hn Tryz.sizeOf209
theorem zem{G:aV}:wJ iT G 161 9 1 16:=by
 obtain⟨i,z,_,hi,aW,ao,af,jk,hn⟩:=tD (P:=iT) (t:=23) (e:=9) (n:=1) (bytes:=16) (by kernel_rfl)
 exact DK Tryz.zec i z 16 hi aW ao af jk hn Tryz.sizeOf9
theorem zen{G:aV}:wJ iT G 203 111 7 72:=by
 obtain⟨i,z,_,hi,aW,ao,af,jk,hn⟩:=tD (P:=iT) (t:=112) (e:=111) (n:=7) (bytes:=72) (by kernel_rfl)
 exact DK Tryz.zee i z 72 hi aW ao af jk hn Tryz.sizeOf111
theorem zeo{G:aV}:wJ iT G 204 292 9 112:=by
 obtain⟨i,z,_,hi,aW,ao,af,jk,hn⟩:=tD (P:=iT) (t:=113) (e:=292) (n:=9) (bytes:=112) (by kernel_rfl)
 exact DK Tryz.zeg i z 112 hi aW ao af jk hn Tryz.sizeOf292
theorem zep{G:aV}:wJ iT G 205 295 3 32:=by
 obtain⟨i,z,_,hi,aW,ao,af,jk,hn⟩:=tD (P:=iT) (t:=290) (e:=295) (n:=3) (bytes:=32) (by kernel_rfl)
 exact DK Tryz.zei i z 32 hi aW ao af jk hn Tryz.sizeOf295
def Nh:DN:=[(160,209,2,16),(161,9,1,16),(203,111,7,72),(204,292,9,112),(205,295,3,32)]
theorem zeq{G:aV}: ∀f t m bytes,(f,t,m,bytes)∈Nh->wJ iT G f t m bytes:=λf t m b h=>by
 simp only[Nh,List.mem_cons,List.not_mem_nil,or_false,Prod.mk.injEq]at h
 rcases h with⟨rfl,rfl,rfl,rfl⟩|⟨rfl,rfl,rfl,rfl⟩|⟨rfl,rfl,rfl,rfl⟩|⟨rfl,rfl,rfl,rfl⟩|⟨rfl,rfl,rfl,rfl⟩
 ·exact zel
 ·exact zem
 ·exact zen
 ·exact zeo
 ·exact zep
def nO:fB:=jX (MS 29 83 5) (MQ Nh)
theorem oE:ia iT lq nO:=ky (zdL Tt) (zdK zeq)
end Go.aH
