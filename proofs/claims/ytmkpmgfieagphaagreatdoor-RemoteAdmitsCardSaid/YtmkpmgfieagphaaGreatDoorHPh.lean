/- Contracts by hand: slices.Clone and slices.Insert of guests. Conditions: none. -/
import Derived.Test.YtmkpmgfieagphaaGreatDoorHTEm
import Derived.Test.YtmkpmgfieagphaaGreatDoorHTEp
import Derived.Test.YtmkpmgfieagphaaGreatDoorHPn
namespace Go.Proofs
open Go.Shelf
def Tryz.zb4:Go.Shelf.Ren:=⟨fun|41=>99|n=>n,fun|4=>4|22=>67|23=>132|n=>n,fun|n=>n⟩
theorem Tryz.zb5:Go.Proofs.SlLaysE0.n41 Tryz.prog Tryz.zb4:={
 mixed:=by kernel_rfl
 f41:=⟨"slices.Clone[[]homehub/api.Guest,homehub/api.Guest]",by kernel_rfl,Tryz.func99.trans (congrArg some (by kernel_rfl))⟩
 t4:=Tryz.underlying4
 a4:=Tryz.isAgg4
 z4:=Tryz.sizeOf4
 v4:=Tryz.zeroValue4
 t22:=Tryz.underlying67
 a22:=Tryz.isAgg67
 z22:=Tryz.sizeOf67
 v22:=Tryz.zeroValue67}
end Go.Proofs
namespace Go.Proofs
open Go.Shelf Go.aN
def Tryz.zb6:Go.Shelf.Ren:=⟨fun|22=>107|29=>168|30=>169|n=>n,fun|3=>3|4=>4|24=>67|9=>132|n=>n,fun|n=>n⟩
theorem Tryz.zb7:w3 Tryz.prog Tryz.zb6:={
 mixed:=by kernel_rfl
 f22:=⟨"slices.Insert[[]homehub/api.Guest,homehub/api.Guest]",by kernel_rfl,Tryz.func107.trans (congrArg some (by kernel_rfl))⟩
 f29:=fun args w=>run_callFunc_extern Tryz.func168 (by kernel_rfl) (by kernel_rfl) (by kernel_rfl) (by kernel_rfl) args w
 t3:=Tryz.underlying3
 a3:=Tryz.isAgg3
 z3:=Tryz.sizeOf3
 v3:=Tryz.zeroValue3
 t4:=Tryz.underlying4
 a4:=Tryz.isAgg4
 z4:=Tryz.sizeOf4
 v4:=Tryz.zeroValue4
 t24:=Tryz.underlying67
 a24:=Tryz.isAgg67
 z24:=Tryz.sizeOf67
 v24:=Tryz.zeroValue67}
end Go.Proofs
namespace Go.aN
open Go Go.Proofs
theorem zb8{G:bc}:nU Tryz.prog G ⟨99,132,.aX,32⟩:=by
 obtain⟨i,z,_,hi,aT,ai,ad,fe,hn⟩:=qb (P:=Tryz.prog) (t:=67) (e:=132) (n:=b4 .aX) (bytes:=32) (by kernel_rfl)
 exact Al (c:=.aX) Tryz.zb5 i z 32 hi aT ai ad fe hn Tryz.sizeOf132
theorem zb9{G:bc}:uL Tryz.prog G ⟨107,132,.aX,32⟩:=by
 obtain⟨i,z,_,hi,aT,ai,ad,fe,hn⟩:=qb (P:=Tryz.prog) (t:=67) (e:=132) (n:=b4 .aX) (bytes:=32) (by kernel_rfl)
 exact zca (c:=.aX) Tryz.zb7 i z 32 hi aT ai ad fe hn Tryz.sizeOf132
end Go.aN
namespace Go.Proofs
open Go.Shelf Go.aN
def Tryz.zcb:Go.Shelf.Ren:=⟨fun|41=>245|n=>n,fun|4=>4|22=>162|23=>25|n=>n,fun|n=>n⟩
theorem Tryz.zcc:Go.Proofs.SlLaysE0.n41 Tryz.prog Tryz.zcb:={
 mixed:=by kernel_rfl
 f41:=⟨"slices.Clone[[]homehub/api.Value,homehub/api.Value]",by kernel_rfl,Tryz.func245.trans (congrArg some (by kernel_rfl))⟩
 t4:=Tryz.underlying4
 a4:=Tryz.isAgg4
 z4:=Tryz.sizeOf4
 v4:=Tryz.zeroValue4
 t22:=Tryz.underlying162
 a22:=Tryz.isAgg162
 z22:=Tryz.sizeOf162
 v22:=Tryz.zeroValue162}
end Go.Proofs
namespace Go.aN
open Go Go.Proofs
theorem zcd{G:bc}:nU Tryz.prog G ⟨245,25,.c6,32⟩:=by
 obtain⟨i,z,_,hi,aT,ai,ad,fe,hn⟩:=qb (P:=Tryz.prog) (t:=162) (e:=25) (n:=b4 .c6) (bytes:=32) (by kernel_rfl)
 exact Al (c:=.c6) Tryz.zcc i z 32 hi aT ai ad fe hn Tryz.sizeOf25
end Go.aN
namespace Go.aN
open Go Go.Proofs
theorem IC{P:Program}{G:bc}{f:Nat}{t:TypeId}{c:bR}{bytes:Nat}(h:nU P G ⟨f,t,c,bytes⟩)(x:List (fS c))(hx:x.length≤maxLen∧x.length*bytes≤140737488355328):
 dN P G f [.av (.li c x)] [] 0 fun v _=>v= .av (.li c x):=
 (h (σ:=[]) (n:=0) (y:=.av (.li c x)) (l:=x) (by simp[fB]) hx).ret (fun _ _=>True) fun r b0 ⟨aa,ae⟩=>⟨.av (.li c x),by
  subst aa;subst ae
  exact(ID (c:=c) (es:=x.map (ck c)) (l:=x) (by simp) (gd.refl _)).ft,rfl,rfl⟩
end Go.aN
