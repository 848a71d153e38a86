/- Contracts by hand: slices.Clone and slices.Insert of guests. Conditions: none. -/
import Derived.Test.YtmkpmgfieagphaaGreatDoorKTEm
import Derived.Test.YtmkpmgfieagphaaGreatDoorKTEp
import Derived.Test.YtmkpmgfieagphaaGreatDoorKPn
namespace Go.Proofs
open Go.Shelf
def Tryz.zaj:Go.Shelf.Ren:=⟨fun|41=>99|n=>n,fun|4=>4|22=>67|23=>132|n=>n,fun|n=>n⟩
theorem Tryz.zak:Go.Proofs.SlLaysE0.n41 Tryz.prog Tryz.zaj:={
 mixed:=by kernel_rfl
 f41:=⟨"slices.Clone[[]homehub/api.Guest,homehub/api.Guest]",by kernel_rfl,Tryz.func99.trans (congrArg some (by kernel_rfl))⟩
 t4:=Tryz.underlying4
 a4:=Tryz.isAgg4
 z4:=Tryz.sizeOf4
 v4:=Tryz.zeroValue4
 t22:=Tryz.underlying67
 a22:=Tryz.isAgg67
 z22:=Tryz.sizeOf67
 v22:=Tryz.zeroValue67}
end Go.Proofs
namespace Go.Proofs
open Go.Shelf Go.aK
def Tryz.zal:Go.Shelf.Ren:=⟨fun|22=>107|29=>168|30=>169|n=>n,fun|3=>3|4=>4|24=>67|9=>132|n=>n,fun|n=>n⟩
theorem Tryz.zam:wG Tryz.prog Tryz.zal:={
 mixed:=by kernel_rfl
 f22:=⟨"slices.Insert[[]homehub/api.Guest,homehub/api.Guest]",by kernel_rfl,Tryz.func107.trans (congrArg some (by kernel_rfl))⟩
 f29:=fun args w=>run_callFunc_extern Tryz.func168 (by kernel_rfl) (by kernel_rfl) (by kernel_rfl) (by kernel_rfl) args w
 t3:=Tryz.underlying3
 a3:=Tryz.isAgg3
 z3:=Tryz.sizeOf3
 v3:=Tryz.zeroValue3
 t4:=Tryz.underlying4
 a4:=Tryz.isAgg4
 z4:=Tryz.sizeOf4
 v4:=Tryz.zeroValue4
 t24:=Tryz.underlying67
 a24:=Tryz.isAgg67
 z24:=Tryz.sizeOf67
 v24:=Tryz.zeroValue67}
end Go.Proofs
namespace Go.aK
open Go Go.Proofs
theorem zan{G:a7}:nL Tryz.prog G ⟨99,132,.cH,32⟩:=by
 obtain⟨i,z,_,hi,aR,ai,ad,e9,hn⟩:=qc (P:=Tryz.prog) (t:=67) (e:=132) (n:=bY .cH) (bytes:=32) (by kernel_rfl)
 exact zq (c:=.cH) Tryz.zak i z 32 hi aR ai ad e9 hn Tryz.sizeOf132
theorem zao{G:a7}:uC Tryz.prog G ⟨107,132,.cH,32⟩:=by
 obtain⟨i,z,_,hi,aR,ai,ad,e9,hn⟩:=qc (P:=Tryz.prog) (t:=67) (e:=132) (n:=bY .cH) (bytes:=32) (by kernel_rfl)
 exact zap (c:=.cH) Tryz.zam i z 32 hi aR ai ad e9 hn Tryz.sizeOf132
end Go.aK
namespace Go.Proofs
open Go.Shelf Go.aK
def Tryz.zaq:Go.Shelf.Ren:=⟨fun|41=>245|n=>n,fun|4=>4|22=>162|23=>25|n=>n,fun|n=>n⟩
theorem Tryz.zar:Go.Proofs.SlLaysE0.n41 Tryz.prog Tryz.zaq:={
 mixed:=by kernel_rfl
 f41:=⟨"slices.Clone[[]homehub/api.Value,homehub/api.Value]",by kernel_rfl,Tryz.func245.trans (congrArg some (by kernel_rfl))⟩
 t4:=Tryz.underlying4
 a4:=Tryz.isAgg4
 z4:=Tryz.sizeOf4
 v4:=Tryz.zeroValue4
 t22:=Tryz.underlying162
 a22:=Tryz.isAgg162
 z22:=Tryz.sizeOf162
 v22:=Tryz.zeroValue162}
end Go.Proofs
namespace Go.aK
open Go Go.Proofs
theorem zas{G:a7}:nL Tryz.prog G ⟨245,25,.cd,32⟩:=by
 obtain⟨i,z,_,hi,aR,ai,ad,e9,hn⟩:=qc (P:=Tryz.prog) (t:=162) (e:=25) (n:=bY .cd) (bytes:=32) (by kernel_rfl)
 exact zq (c:=.cd) Tryz.zar i z 32 hi aR ai ad e9 hn Tryz.sizeOf25
end Go.aK
namespace Go.aK
open Go Go.Proofs
theorem Hr{P:Program}{G:a7}{f:Nat}{t:TypeId}{c:bK}{bytes:Nat}(h:nL P G ⟨f,t,c,bytes⟩)(x:List (fN c))(hx:x.length≤maxLen∧x.length*bytes≤140737488355328):
 dF P G f [.av (.li c x)] [] 0 fun v _=>v= .av (.li c x):=
 (h (σ:=[]) (n:=0) (y:=.av (.li c x)) (l:=x) (by simp[fw]) hx).ret (fun _ _=>True) fun r bU ⟨aa,ae⟩=>⟨.av (.li c x),by
  subst aa;subst ae
  exact(Hs (c:=c) (es:=x.map (b9 c)) (l:=x) (by simp) (fZ.refl _)).fm,rfl,rfl⟩
end Go.aK
