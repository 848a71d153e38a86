/- Contracts by hand: slices.Clone and slices.Insert of guests. Conditions: none. -/
import Derived.Test.YtmkpmgfieagphaaGreatDoorQTEm
import Derived.Test.YtmkpmgfieagphaaGreatDoorQTEp
import Derived.Test.YtmkpmgfieagphaaGreatDoorQPn
namespace Go.Proofs
open Go.Shelf
def Tryz.YR:Go.Shelf.Ren:=⟨fun|41=>99|n=>n,fun|4=>4|22=>67|23=>132|n=>n,fun|n=>n⟩
theorem Tryz.YS:Go.Proofs.SlLaysE0.n41 Tryz.prog Tryz.YR:={
 mixed:=by kernel_rfl
 f41:=⟨"slices.Clone[[]homehub/api.Guest,homehub/api.Guest]",by kernel_rfl,Tryz.func99.trans (congrArg some (by kernel_rfl))⟩
 t4:=Tryz.underlying4
 a4:=Tryz.isAgg4
 z4:=Tryz.sizeOf4
 v4:=Tryz.zeroValue4
 t22:=Tryz.underlying67
 a22:=Tryz.isAgg67
 z22:=Tryz.sizeOf67
 v22:=Tryz.zeroValue67}
end Go.Proofs
namespace Go.Proofs
open Go.Shelf Go.aK
def Tryz.YT:Go.Shelf.Ren:=⟨fun|22=>107|29=>168|30=>169|n=>n,fun|3=>3|4=>4|24=>67|9=>132|n=>n,fun|n=>n⟩
theorem Tryz.YU:vB Tryz.prog Tryz.YT:={
 mixed:=by kernel_rfl
 f22:=⟨"slices.Insert[[]homehub/api.Guest,homehub/api.Guest]",by kernel_rfl,Tryz.func107.trans (congrArg some (by kernel_rfl))⟩
 f29:=fun args w=>run_callFunc_extern Tryz.func168 (by kernel_rfl) (by kernel_rfl) (by kernel_rfl) (by kernel_rfl) args w
 t3:=Tryz.underlying3
 a3:=Tryz.isAgg3
 z3:=Tryz.sizeOf3
 v3:=Tryz.zeroValue3
 t4:=Tryz.underlying4
 a4:=Tryz.isAgg4
 z4:=Tryz.sizeOf4
 v4:=Tryz.zeroValue4
 t24:=Tryz.underlying67
 a24:=Tryz.isAgg67
 z24:=Tryz.sizeOf67
 v24:=Tryz.zeroValue67}
end Go.Proofs
namespace Go.aK
open Go Go.Proofs
theorem YV{G:a8}:na Tryz.prog G ⟨99,132,.bA,32⟩:=by
 obtain⟨i,z,_,hi,aV,ai,ad,e8,hn⟩:=pF (P:=Tryz.prog) (t:=67) (e:=132) (n:=bZ .bA) (bytes:=32) (by kernel_rfl)
 exact yk (c:=.bA) Tryz.YS i z 32 hi aV ai ad e8 hn Tryz.sizeOf132
theorem YW{G:a8}:tn Tryz.prog G ⟨107,132,.bA,32⟩:=by
 obtain⟨i,z,_,hi,aV,ai,ad,e8,hn⟩:=pF (P:=Tryz.prog) (t:=67) (e:=132) (n:=bZ .bA) (bytes:=32) (by kernel_rfl)
 exact YX (c:=.bA) Tryz.YU i z 32 hi aV ai ad e8 hn Tryz.sizeOf132
end Go.aK
namespace Go.Proofs
open Go.Shelf Go.aK
def Tryz.YY:Go.Shelf.Ren:=⟨fun|41=>245|n=>n,fun|4=>4|22=>162|23=>25|n=>n,fun|n=>n⟩
theorem Tryz.YZ:Go.Proofs.SlLaysE0.n41 Tryz.prog Tryz.YY:={
 mixed:=by kernel_rfl
 f41:=⟨"slices.Clone[[]homehub/api.Value,homehub/api.Value]",by kernel_rfl,Tryz.func245.trans (congrArg some (by kernel_rfl))⟩
 t4:=Tryz.underlying4
 a4:=Tryz.isAgg4
 z4:=Tryz.sizeOf4
 v4:=Tryz.zeroValue4
 t22:=Tryz.underlying162
 a22:=Tryz.isAgg162
 z22:=Tryz.sizeOf162
 v22:=Tryz.zeroValue162}
end Go.Proofs
namespace Go.aK
open Go Go.Proofs
theorem Y0{G:a8}:na Tryz.prog G ⟨245,25,.cY,32⟩:=by
 obtain⟨i,z,_,hi,aV,ai,ad,e8,hn⟩:=pF (P:=Tryz.prog) (t:=162) (e:=25) (n:=bZ .cY) (bytes:=32) (by kernel_rfl)
 exact yk (c:=.cY) Tryz.YZ i z 32 hi aV ai ad e8 hn Tryz.sizeOf25
end Go.aK
namespace Go.aK
open Go Go.Proofs
theorem FP{P:Program}{G:a8}{f:Nat}{t:TypeId}{c:bF}{bytes:Nat}(h:na P G ⟨f,t,c,bytes⟩)(x:List (fO c))(hx:x.length≤maxLen∧x.length*bytes≤140737488355328):
 dE P G f [.au (.li c x)] [] 0 fun v _=>v= .au (.li c x):=
 (h (σ:=[]) (n:=0) (y:=.au (.li c x)) (l:=x) (by simp[ft]) hx).ret (fun _ _=>True) fun r bU ⟨aa,ae⟩=>⟨.au (.li c x),by
  subst aa;subst ae
  exact(FQ (c:=c) (es:=x.map (b9 c)) (l:=x) (by simp) (fZ.refl _)).fk,rfl,rfl⟩
end Go.aK
