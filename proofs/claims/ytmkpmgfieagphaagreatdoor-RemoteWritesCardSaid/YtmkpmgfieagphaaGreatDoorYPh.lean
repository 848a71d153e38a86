/- Contracts by hand: slices.Clone and slices.Insert of guests. Conditions: none. -/
import Derived.Test.YtmkpmgfieagphaaGreatDoorYTEm
import Derived.Test.YtmkpmgfieagphaaGreatDoorYTEq
import Derived.Test.YtmkpmgfieagphaaGreatDoorYPn
namespace Go.Proofs
open Go.Shelf
def Tryz.ZV:Go.Shelf.Ren:=⟨fun|41=>99|n=>n,fun|4=>4|22=>67|23=>132|n=>n,fun|n=>n⟩
theorem Tryz.ZW:Go.Proofs.SlLaysE0.n41 Tryz.prog Tryz.ZV:={
 mixed:=by kernel_rfl
 f41:=⟨"slices.Clone[[]homehub/api.Guest,homehub/api.Guest]",by kernel_rfl,Tryz.func99.trans (congrArg some (by kernel_rfl))⟩
 t4:=Tryz.underlying4
 a4:=Tryz.isAgg4
 z4:=Tryz.sizeOf4
 v4:=Tryz.zeroValue4
 t22:=Tryz.underlying67
 a22:=Tryz.isAgg67
 z22:=Tryz.sizeOf67
 v22:=Tryz.zeroValue67}
end Go.Proofs
namespace Go.Proofs
open Go.Shelf Go.aO
def Tryz.ZX:Go.Shelf.Ren:=⟨fun|22=>107|29=>168|30=>169|n=>n,fun|3=>3|4=>4|24=>67|9=>132|n=>n,fun|n=>n⟩
theorem Tryz.ZY:vV Tryz.prog Tryz.ZX:={
 mixed:=by kernel_rfl
 f22:=⟨"slices.Insert[[]homehub/api.Guest,homehub/api.Guest]",by kernel_rfl,Tryz.func107.trans (congrArg some (by kernel_rfl))⟩
 f29:=fun args w=>run_callFunc_extern Tryz.func168 (by kernel_rfl) (by kernel_rfl) (by kernel_rfl) (by kernel_rfl) args w
 t3:=Tryz.underlying3
 a3:=Tryz.isAgg3
 z3:=Tryz.sizeOf3
 v3:=Tryz.zeroValue3
 t4:=Tryz.underlying4
 a4:=Tryz.isAgg4
 z4:=Tryz.sizeOf4
 v4:=Tryz.zeroValue4
 t24:=Tryz.underlying67
 a24:=Tryz.isAgg67
 z24:=Tryz.sizeOf67
 v24:=Tryz.zeroValue67}
end Go.Proofs
namespace Go.aO
open Go Go.Proofs
theorem ZZ{G:bd}:nr Tryz.prog G ⟨99,132,.cS,32⟩:=by
 obtain⟨i,z,_,hi,aS,ai,ad,fe,hn⟩:=pK (P:=Tryz.prog) (t:=67) (e:=132) (n:=b5 .cS) (bytes:=32) (by kernel_rfl)
 exact y2 (c:=.cS) Tryz.ZW i z 32 hi aS ai ad fe hn Tryz.sizeOf132
theorem Z0{G:bd}:tQ Tryz.prog G ⟨107,132,.cS,32⟩:=by
 obtain⟨i,z,_,hi,aS,ai,ad,fe,hn⟩:=pK (P:=Tryz.prog) (t:=67) (e:=132) (n:=b5 .cS) (bytes:=32) (by kernel_rfl)
 exact Z1 (c:=.cS) Tryz.ZY i z 32 hi aS ai ad fe hn Tryz.sizeOf132
end Go.aO
namespace Go.Proofs
open Go.Shelf Go.aO
def Tryz.Z2:Go.Shelf.Ren:=⟨fun|41=>245|n=>n,fun|4=>4|22=>162|23=>25|n=>n,fun|n=>n⟩
theorem Tryz.Z3:Go.Proofs.SlLaysE0.n41 Tryz.prog Tryz.Z2:={
 mixed:=by kernel_rfl
 f41:=⟨"slices.Clone[[]homehub/api.Value,homehub/api.Value]",by kernel_rfl,Tryz.func245.trans (congrArg some (by kernel_rfl))⟩
 t4:=Tryz.underlying4
 a4:=Tryz.isAgg4
 z4:=Tryz.sizeOf4
 v4:=Tryz.zeroValue4
 t22:=Tryz.underlying162
 a22:=Tryz.isAgg162
 z22:=Tryz.sizeOf162
 v22:=Tryz.zeroValue162}
end Go.Proofs
namespace Go.aO
open Go Go.Proofs
theorem Z4{G:bd}:nr Tryz.prog G ⟨245,25,.az,32⟩:=by
 obtain⟨i,z,_,hi,aS,ai,ad,fe,hn⟩:=pK (P:=Tryz.prog) (t:=162) (e:=25) (n:=b5 .az) (bytes:=32) (by kernel_rfl)
 exact y2 (c:=.az) Tryz.Z3 i z 32 hi aS ai ad fe hn Tryz.sizeOf25
end Go.aO
namespace Go.aO
open Go Go.Proofs
theorem Hp{P:Program}{G:bd}{f:Nat}{t:TypeId}{c:bJ}{bytes:Nat}(h:nr P G ⟨f,t,c,bytes⟩)(x:List (fQ c))(hx:x.length≤maxLen∧x.length*bytes≤140737488355328):
 dJ P G f [.aw (.li c x)] [] 0 fun v _=>v= .aw (.li c x):=
 (h (σ:=[]) (n:=0) (y:=.aw (.li c x)) (l:=x) (by simp[fy]) hx).ret (fun _ _=>True) fun r b1 ⟨aa,ae⟩=>⟨.aw (.li c x),by
  subst aa;subst ae
  exact(Hq (c:=c) (es:=x.map (cj c)) (l:=x) (by simp) (gh.refl _)).fq,rfl,rfl⟩
end Go.aO
