/- Contracts by hand: copies that nobody writes. Conditions: none. -/
import Derived.Test.YtmkpmgfieagphaaGreatDoorHPh
namespace Go.Proofs
open Go.Shelf Go.aN
def Tryz.zce:Go.Shelf.Ren:=⟨fun|41=>224|n=>n,fun|4=>4|22=>58|23=>9|n=>n,fun|n=>n⟩
theorem Tryz.zcf:Go.Proofs.SlLaysE0.n41 Tryz.prog Tryz.zce:={
 mixed:=by kernel_rfl
 f41:=⟨"slices.Clone[[]string,string]",by kernel_rfl,Tryz.func224.trans (congrArg some (by kernel_rfl))⟩
 t4:=Tryz.underlying4
 a4:=Tryz.isAgg4
 z4:=Tryz.sizeOf4
 v4:=Tryz.zeroValue4
 t22:=Tryz.underlying58
 a22:=Tryz.isAgg58
 z22:=Tryz.sizeOf58
 v22:=Tryz.zeroValue58}
end Go.Proofs
namespace Go.aN
open Go Go.Proofs
theorem zcg{G:bc}:nU Tryz.prog G ⟨224,9,.str,16⟩:=by
 obtain⟨i,z,_,hi,aT,ai,ad,fe,hn⟩:=qb (P:=Tryz.prog) (t:=58) (e:=9) (n:=b4 .str) (bytes:=16) (by kernel_rfl)
 exact Al (c:=.str) Tryz.zcf i z 16 hi aT ai ad fe hn Tryz.sizeOf9
theorem zch{G:bc}:bE bf G 224 DL:=fun x hx=>IC zcg x hx
end Go.aN
namespace Go.Proofs
open Go.Shelf Go.aN
def Tryz.zci:Go.Shelf.Ren:=⟨fun|41=>262|n=>n,fun|4=>4|22=>196|23=>236|n=>n,fun|n=>n⟩
theorem Tryz.zcj:Go.Proofs.SlLaysE0.n41 Tryz.prog Tryz.zci:={
 mixed:=by kernel_rfl
 f41:=⟨"slices.Clone[[]homehub/api.Effect,homehub/api.Effect]",by kernel_rfl,Tryz.func262.trans (congrArg some (by kernel_rfl))⟩
 t4:=Tryz.underlying4
 a4:=Tryz.isAgg4
 z4:=Tryz.sizeOf4
 v4:=Tryz.zeroValue4
 t22:=Tryz.underlying196
 a22:=Tryz.isAgg196
 z22:=Tryz.sizeOf196
 v22:=Tryz.zeroValue196}
end Go.Proofs
namespace Go.aN
open Go Go.Proofs
theorem zck{G:bc}:nU Tryz.prog G ⟨262,236,.cX,32⟩:=by
 obtain⟨i,z,_,hi,aT,ai,ad,fe,hn⟩:=qb (P:=Tryz.prog) (t:=196) (e:=236) (n:=b4 .cX) (bytes:=32) (by kernel_rfl)
 exact Al (c:=.cX) Tryz.zcj i z 32 hi aT ai ad fe hn Tryz.sizeOf236
theorem zcl{G:bc}:bE bf G 262 DM:=fun x hx=>IC zck x hx
end Go.aN
namespace Go.Proofs
open Go.Shelf Go.aN
def Tryz.zcm:Go.Shelf.Ren:=⟨fun|41=>223|n=>n,fun|4=>4|22=>140|23=>261|n=>n,fun|n=>n⟩
theorem Tryz.zcn:Go.Proofs.SlLaysE0.n41 Tryz.prog Tryz.zcm:={
 mixed:=by kernel_rfl
 f41:=⟨"slices.Clone[[]homehub/api.Span,homehub/api.Span]",by kernel_rfl,Tryz.func223.trans (congrArg some (by kernel_rfl))⟩
 t4:=Tryz.underlying4
 a4:=Tryz.isAgg4
 z4:=Tryz.sizeOf4
 v4:=Tryz.zeroValue4
 t22:=Tryz.underlying140
 a22:=Tryz.isAgg140
 z22:=Tryz.sizeOf140
 v22:=Tryz.zeroValue140}
end Go.Proofs
namespace Go.aN
open Go Go.Proofs
theorem zco{G:bc}:nU Tryz.prog G ⟨223,261,.df,16⟩:=by
 obtain⟨i,z,_,hi,aT,ai,ad,fe,hn⟩:=qb (P:=Tryz.prog) (t:=140) (e:=261) (n:=b4 .df) (bytes:=16) (by kernel_rfl)
 exact Al (c:=.df) Tryz.zcn i z 16 hi aT ai ad fe hn Tryz.sizeOf261
theorem zcp{G:bc}:bE bf G 223 DN:=fun x hx=>IC zco x hx
end Go.aN
