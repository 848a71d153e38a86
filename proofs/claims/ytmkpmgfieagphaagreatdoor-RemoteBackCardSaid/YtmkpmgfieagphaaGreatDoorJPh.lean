/- Contracts by hand: slices.Clone and slices.Insert of guests. Conditions: none. -/
import Derived.Test.YtmkpmgfieagphaaGreatDoorJTEm
import Derived.Test.YtmkpmgfieagphaaGreatDoorJTEp
import Derived.Test.YtmkpmgfieagphaaGreatDoorJPn
namespace Go.Proofs
open Go.Shelf
def Tryz.Zb:Go.Shelf.Ren:=⟨fun|41=>99|n=>n,fun|4=>4|22=>67|23=>132|n=>n,fun|n=>n⟩
theorem Tryz.Zc:Go.Proofs.SlLaysE0.n41 Tryz.prog Tryz.Zb:={
 mixed:=by kernel_rfl
 f41:=⟨"slices.Clone[[]homehub/api.Guest,homehub/api.Guest]",by kernel_rfl,Tryz.func99.trans (congrArg some (by kernel_rfl))⟩
 t4:=Tryz.underlying4
 a4:=Tryz.isAgg4
 z4:=Tryz.sizeOf4
 v4:=Tryz.zeroValue4
 t22:=Tryz.underlying67
 a22:=Tryz.isAgg67
 z22:=Tryz.sizeOf67
 v22:=Tryz.zeroValue67}
end Go.Proofs
namespace Go.Proofs
open Go.Shelf Go.aM
def Tryz.Zd:Go.Shelf.Ren:=⟨fun|22=>107|29=>168|30=>169|n=>n,fun|3=>3|4=>4|24=>67|9=>132|n=>n,fun|n=>n⟩
theorem Tryz.Ze:wg Tryz.prog Tryz.Zd:={
 mixed:=by kernel_rfl
 f22:=⟨"slices.Insert[[]homehub/api.Guest,homehub/api.Guest]",by kernel_rfl,Tryz.func107.trans (congrArg some (by kernel_rfl))⟩
 f29:=fun args w=>run_callFunc_extern Tryz.func168 (by kernel_rfl) (by kernel_rfl) (by kernel_rfl) (by kernel_rfl) args w
 t3:=Tryz.underlying3
 a3:=Tryz.isAgg3
 z3:=Tryz.sizeOf3
 v3:=Tryz.zeroValue3
 t4:=Tryz.underlying4
 a4:=Tryz.isAgg4
 z4:=Tryz.sizeOf4
 v4:=Tryz.zeroValue4
 t24:=Tryz.underlying67
 a24:=Tryz.isAgg67
 z24:=Tryz.sizeOf67
 v24:=Tryz.zeroValue67}
end Go.Proofs
namespace Go.aM
open Go Go.Proofs
theorem Zf{G:a8}:nL Tryz.prog G ⟨99,132,.b8,32⟩:=by
 obtain⟨i,z,_,hi,aQ,ai,ad,e9,hn⟩:=p8 (P:=Tryz.prog) (t:=67) (e:=132) (n:=bZ .b8) (bytes:=32) (by kernel_rfl)
 exact y2 (c:=.b8) Tryz.Zc i z 32 hi aQ ai ad e9 hn Tryz.sizeOf132
theorem Zg{G:a8}:uk Tryz.prog G ⟨107,132,.b8,32⟩:=by
 obtain⟨i,z,_,hi,aQ,ai,ad,e9,hn⟩:=p8 (P:=Tryz.prog) (t:=67) (e:=132) (n:=bZ .b8) (bytes:=32) (by kernel_rfl)
 exact Zh (c:=.b8) Tryz.Ze i z 32 hi aQ ai ad e9 hn Tryz.sizeOf132
end Go.aM
namespace Go.Proofs
open Go.Shelf Go.aM
def Tryz.Zi:Go.Shelf.Ren:=⟨fun|41=>245|n=>n,fun|4=>4|22=>162|23=>25|n=>n,fun|n=>n⟩
theorem Tryz.Zj:Go.Proofs.SlLaysE0.n41 Tryz.prog Tryz.Zi:={
 mixed:=by kernel_rfl
 f41:=⟨"slices.Clone[[]homehub/api.Value,homehub/api.Value]",by kernel_rfl,Tryz.func245.trans (congrArg some (by kernel_rfl))⟩
 t4:=Tryz.underlying4
 a4:=Tryz.isAgg4
 z4:=Tryz.sizeOf4
 v4:=Tryz.zeroValue4
 t22:=Tryz.underlying162
 a22:=Tryz.isAgg162
 z22:=Tryz.sizeOf162
 v22:=Tryz.zeroValue162}
end Go.Proofs
namespace Go.aM
open Go Go.Proofs
theorem Zk{G:a8}:nL Tryz.prog G ⟨245,25,.cD,32⟩:=by
 obtain⟨i,z,_,hi,aQ,ai,ad,e9,hn⟩:=p8 (P:=Tryz.prog) (t:=162) (e:=25) (n:=bZ .cD) (bytes:=32) (by kernel_rfl)
 exact y2 (c:=.cD) Tryz.Zj i z 32 hi aQ ai ad e9 hn Tryz.sizeOf25
end Go.aM
namespace Go.aM
open Go Go.Proofs
theorem GZ{P:Program}{G:a8}{f:Nat}{t:TypeId}{c:bL}{bytes:Nat}(h:nL P G ⟨f,t,c,bytes⟩)(x:List (fJ c))(hx:x.length≤maxLen∧x.length*bytes≤140737488355328):
 dF P G f [.av (.li c x)] [] 0 fun v _=>v= .av (.li c x):=
 (h (σ:=[]) (n:=0) (y:=.av (.li c x)) (l:=x) (by simp[fr]) hx).ret (fun _ _=>True) fun r bV ⟨aa,ae⟩=>⟨.av (.li c x),by
  subst aa;subst ae
  exact(G0 (c:=c) (es:=x.map (cb c)) (l:=x) (by simp) (fY.refl _)).fk,rfl,rfl⟩
end Go.aM
