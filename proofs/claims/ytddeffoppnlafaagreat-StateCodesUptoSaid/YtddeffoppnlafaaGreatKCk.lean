/- Calls that are known. Conditions: none. -/
import Derived.Shelf.Strings.Builder1
import Derived.Shelf.SlicesE.Clone
import Derived.Test.YtddeffoppnlafaaGreatKCEi
import Derived.Test.YtddeffoppnlafaaGreatKTEf
import Derived.Test.YtddeffoppnlafaaGreatProg
namespace Go.Proofs
open Go.Shelf
def Tryz.Z4:Go.Shelf.Ren:=⟨fun|41=>160|n=>n,fun|4=>4|22=>45|23=>209|n=>n,fun|n=>n⟩
theorem Tryz.Z5:Go.Proofs.SlLaysE0.n41 Tryz.prog Tryz.Z4:={
 mixed:=by kernel_rfl
 f41:=⟨"slices.Clone[[]homehub/api.Span,homehub/api.Span]",by kernel_rfl,Tryz.func160.trans (congrArg some (by kernel_rfl))⟩
 t4:=Tryz.underlying4
 a4:=Tryz.isAgg4
 z4:=Tryz.sizeOf4
 v4:=Tryz.zeroValue4
 t22:=Tryz.underlying45
 a22:=Tryz.isAgg45
 z22:=Tryz.sizeOf45
 v22:=Tryz.zeroValue45}
def Tryz.Z6:Go.Shelf.Ren:=⟨fun|41=>161|n=>n,fun|4=>4|22=>23|23=>9|n=>n,fun|n=>n⟩
theorem Tryz.Z7:Go.Proofs.SlLaysE0.n41 Tryz.prog Tryz.Z6:={
 mixed:=by kernel_rfl
 f41:=⟨"slices.Clone[[]string,string]",by kernel_rfl,Tryz.func161.trans (congrArg some (by kernel_rfl))⟩
 t4:=Tryz.underlying4
 a4:=Tryz.isAgg4
 z4:=Tryz.sizeOf4
 v4:=Tryz.zeroValue4
 t22:=Tryz.underlying23
 a22:=Tryz.isAgg23
 z22:=Tryz.sizeOf23
 v22:=Tryz.zeroValue23}
def Tryz.Z8:Go.Shelf.Ren:=⟨fun|41=>203|n=>n,fun|4=>4|22=>112|23=>111|n=>n,fun|n=>n⟩
theorem Tryz.Z9:Go.Proofs.SlLaysE0.n41 Tryz.prog Tryz.Z8:={
 mixed:=by kernel_rfl
 f41:=⟨"slices.Clone[[]homehub/api.Attr,homehub/api.Attr]",by kernel_rfl,Tryz.func203.trans (congrArg some (by kernel_rfl))⟩
 t4:=Tryz.underlying4
 a4:=Tryz.isAgg4
 z4:=Tryz.sizeOf4
 v4:=Tryz.zeroValue4
 t22:=Tryz.underlying112
 a22:=Tryz.isAgg112
 z22:=Tryz.sizeOf112
 v22:=Tryz.zeroValue112}
def Tryz.zaa:Go.Shelf.Ren:=⟨fun|41=>204|n=>n,fun|4=>4|22=>113|23=>292|n=>n,fun|n=>n⟩
theorem Tryz.zab:Go.Proofs.SlLaysE0.n41 Tryz.prog Tryz.zaa:={
 mixed:=by kernel_rfl
 f41:=⟨"slices.Clone[[]homehub/api.Command,homehub/api.Command]",by kernel_rfl,Tryz.func204.trans (congrArg some (by kernel_rfl))⟩
 t4:=Tryz.underlying4
 a4:=Tryz.isAgg4
 z4:=Tryz.sizeOf4
 v4:=Tryz.zeroValue4
 t22:=Tryz.underlying113
 a22:=Tryz.isAgg113
 z22:=Tryz.sizeOf113
 v22:=Tryz.zeroValue113}
def Tryz.zac:Go.Shelf.Ren:=⟨fun|41=>205|n=>n,fun|4=>4|22=>290|23=>295|n=>n,fun|n=>n⟩
theorem Tryz.zad:Go.Proofs.SlLaysE0.n41 Tryz.prog Tryz.zac:={
 mixed:=by kernel_rfl
 f41:=⟨"slices.Clone[[]homehub/api.Effect,homehub/api.Effect]",by kernel_rfl,Tryz.func205.trans (congrArg some (by kernel_rfl))⟩
 t4:=Tryz.underlying4
 a4:=Tryz.isAgg4
 z4:=Tryz.sizeOf4
 v4:=Tryz.zeroValue4
 t22:=Tryz.underlying290
 a22:=Tryz.isAgg290
 z22:=Tryz.sizeOf290
 v22:=Tryz.zeroValue290}
def Tryz.RU:Go.Shelf.Ren:=⟨fun|169=>29|n=>n,fun|70=>80|9=>9|0=>0|72=>83|37=>81|127=>157|3=>3|5=>5|n=>n,fun|n=>n⟩
theorem Tryz.RV:Go.Proofs.Lays.n169 Tryz.prog Tryz.RU:={
 mixed:=by kernel_rfl
 f169:=Tryz.func29.trans (congrArg some (by kernel_rfl))
 t0:=Tryz.underlying0
 a0:=Tryz.isAgg0
 z0:=Tryz.sizeOf0
 v0:=Tryz.zeroValue0
 t3:=Tryz.underlying3
 a3:=Tryz.isAgg3
 z3:=Tryz.sizeOf3
 v3:=Tryz.zeroValue3
 t9:=Tryz.underlying9
 a9:=Tryz.isAgg9
 z9:=Tryz.sizeOf9
 v9:=Tryz.zeroValue9
 t37:=Tryz.underlying81
 a37:=Tryz.isAgg81
 z37:=Tryz.sizeOf81
 v37:=Tryz.zeroValue81
 t70:=Tryz.underlying80
 a70:=Tryz.isAgg80
 z70:=Tryz.sizeOf80
 v70:=Tryz.zeroValue80
 t72:=Tryz.underlying83
 a72:=Tryz.isAgg83
 z72:=Tryz.sizeOf83
 v72:=Tryz.zeroValue83
 t127:=Tryz.underlying157
 a127:=Tryz.isAgg157
 z127:=Tryz.sizeOf157
 v127:=Tryz.zeroValue157
 }
theorem Tryz.RX:Builder.Extra Tryz.prog Tryz.RU:={
 sizeBuilder:=by kernel_rfl
 liesBuilder:=by kernel_rfl
 t5:=Tryz.underlying5
 a5:=Tryz.isAgg5
 z5:=Tryz.sizeOf5
 v5:=Tryz.zeroValue5
 infoByte:=by kernel_rfl
 cellsByte:=by kernel_rfl
 sizeByte:=by kernel_rfl
 neB5:=by decide}
end Go.Proofs
open Go Go.aK Go.fb Go.Proofs
namespace Go.aK
@[reducible] noncomputable def h7:Program:=Go.Proofs.Tryz.prog
@[reducible] def kj:aR:=fun _=>none
def mY:List FuncId:=[60]
theorem QN{G:aR}:x7 h7 G 29 83 5:=⟨fun bf ah=>zae Tryz.RV Tryz.RX bf ah,fun bf=>zaf Tryz.RV Tryz.RX bf⟩
theorem zag{G:aR}:uw h7 G 160 209 2 16:=by
 obtain⟨i,z,_,hi,aT,ao,ag,iu,hn⟩:=rD (P:=h7) (t:=45) (e:=209) (n:=2) (bytes:=16) (by kernel_rfl)
 exact Bc Tryz.Z5 i z 16 hi aT ao ag iu hn Tryz.sizeOf209
theorem zah{G:aR}:uw h7 G 161 9 1 16:=by
 obtain⟨i,z,_,hi,aT,ao,ag,iu,hn⟩:=rD (P:=h7) (t:=23) (e:=9) (n:=1) (bytes:=16) (by kernel_rfl)
 exact Bc Tryz.Z7 i z 16 hi aT ao ag iu hn Tryz.sizeOf9
theorem zai{G:aR}:uw h7 G 203 111 7 72:=by
 obtain⟨i,z,_,hi,aT,ao,ag,iu,hn⟩:=rD (P:=h7) (t:=112) (e:=111) (n:=7) (bytes:=72) (by kernel_rfl)
 exact Bc Tryz.Z9 i z 72 hi aT ao ag iu hn Tryz.sizeOf111
theorem zaj{G:aR}:uw h7 G 204 292 9 112:=by
 obtain⟨i,z,_,hi,aT,ao,ag,iu,hn⟩:=rD (P:=h7) (t:=113) (e:=292) (n:=9) (bytes:=112) (by kernel_rfl)
 exact Bc Tryz.zab i z 112 hi aT ao ag iu hn Tryz.sizeOf292
theorem zak{G:aR}:uw h7 G 205 295 3 32:=by
 obtain⟨i,z,_,hi,aT,ao,ag,iu,hn⟩:=rD (P:=h7) (t:=290) (e:=295) (n:=3) (bytes:=32) (by kernel_rfl)
 exact Bc Tryz.zad i z 32 hi aT ao ag iu hn Tryz.sizeOf295
def J0:Bf:=[(160,209,2,16),(161,9,1,16),(203,111,7,72),(204,292,9,112),(205,295,3,32)]
theorem zal{G:aR}: ∀f t m bytes,(f,t,m,bytes)∈J0→uw h7 G f t m bytes:=fun f t m b h=>by
 simp only[J0,List.mem_cons,List.not_mem_nil,or_false,Prod.mk.injEq]at h
 rcases h with⟨rfl,rfl,rfl,rfl⟩|⟨rfl,rfl,rfl,rfl⟩|⟨rfl,rfl,rfl,rfl⟩|⟨rfl,rfl,rfl,rfl⟩|⟨rfl,rfl,rfl,rfl⟩
 ·exact zag
 ·exact zah
 ·exact zai
 ·exact zaj
 ·exact zak
def mm:fe:=je (JD 29 83 5) (JB J0)
theorem mZ:hA h7 kj mm:=jG (ZG QN) (ZF zal)
end Go.aK
