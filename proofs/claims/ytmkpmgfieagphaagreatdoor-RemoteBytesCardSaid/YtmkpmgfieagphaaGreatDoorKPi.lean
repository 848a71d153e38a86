/- Contracts by hand: copies that nobody writes. Conditions: none. -/
import Derived.Test.YtmkpmgfieagphaaGreatDoorKPh
namespace Go.Proofs
open Go.Shelf Go.aL
def Tryz.zat:Go.Shelf.Ren:=⟨fun|41=>224|n=>n,fun|4=>4|22=>58|23=>9|n=>n,fun|n=>n⟩
theorem Tryz.zau:Go.Proofs.SlLaysE0.n41 Tryz.prog Tryz.zat:={
 mixed:=by kernel_rfl
 f41:=⟨"slices.Clone[[]string,string]",by kernel_rfl,Tryz.func224.trans (congrArg some (by kernel_rfl))⟩
 t4:=Tryz.underlying4
 a4:=Tryz.isAgg4
 z4:=Tryz.sizeOf4
 v4:=Tryz.zeroValue4
 t22:=Tryz.underlying58
 a22:=Tryz.isAgg58
 z22:=Tryz.sizeOf58
 v22:=Tryz.zeroValue58}
end Go.Proofs
namespace Go.aL
open Go Go.Proofs
theorem zav{G:a8}:nM Tryz.prog G ⟨224,9,.str,16⟩:=by
 obtain⟨i,z,_,hi,aS,ai,ad,fa,hn⟩:=qd (P:=Tryz.prog) (t:=58) (e:=9) (n:=bZ .str) (bytes:=16) (by kernel_rfl)
 exact zr (c:=.str) Tryz.zau i z 16 hi aS ai ad fa hn Tryz.sizeOf9
theorem Qh{G:a8}:bJ bj G 224 CT:=fun x hx=>Hs zav x hx
end Go.aL
namespace Go.Proofs
open Go.Shelf Go.aL
def Tryz.zaw:Go.Shelf.Ren:=⟨fun|41=>262|n=>n,fun|4=>4|22=>196|23=>236|n=>n,fun|n=>n⟩
theorem Tryz.zax:Go.Proofs.SlLaysE0.n41 Tryz.prog Tryz.zaw:={
 mixed:=by kernel_rfl
 f41:=⟨"slices.Clone[[]homehub/api.Effect,homehub/api.Effect]",by kernel_rfl,Tryz.func262.trans (congrArg some (by kernel_rfl))⟩
 t4:=Tryz.underlying4
 a4:=Tryz.isAgg4
 z4:=Tryz.sizeOf4
 v4:=Tryz.zeroValue4
 t22:=Tryz.underlying196
 a22:=Tryz.isAgg196
 z22:=Tryz.sizeOf196
 v22:=Tryz.zeroValue196}
end Go.Proofs
namespace Go.aL
open Go Go.Proofs
theorem zay{G:a8}:nM Tryz.prog G ⟨262,236,.cP,32⟩:=by
 obtain⟨i,z,_,hi,aS,ai,ad,fa,hn⟩:=qd (P:=Tryz.prog) (t:=196) (e:=236) (n:=bZ .cP) (bytes:=32) (by kernel_rfl)
 exact zr (c:=.cP) Tryz.zax i z 32 hi aS ai ad fa hn Tryz.sizeOf236
theorem Qi{G:a8}:bJ bj G 262 CU:=fun x hx=>Hs zay x hx
end Go.aL
namespace Go.Proofs
open Go.Shelf Go.aL
def Tryz.zaz:Go.Shelf.Ren:=⟨fun|41=>223|n=>n,fun|4=>4|22=>140|23=>261|n=>n,fun|n=>n⟩
theorem Tryz.zaA:Go.Proofs.SlLaysE0.n41 Tryz.prog Tryz.zaz:={
 mixed:=by kernel_rfl
 f41:=⟨"slices.Clone[[]homehub/api.Span,homehub/api.Span]",by kernel_rfl,Tryz.func223.trans (congrArg some (by kernel_rfl))⟩
 t4:=Tryz.underlying4
 a4:=Tryz.isAgg4
 z4:=Tryz.sizeOf4
 v4:=Tryz.zeroValue4
 t22:=Tryz.underlying140
 a22:=Tryz.isAgg140
 z22:=Tryz.sizeOf140
 v22:=Tryz.zeroValue140}
end Go.Proofs
namespace Go.aL
open Go Go.Proofs
theorem zaB{G:a8}:nM Tryz.prog G ⟨223,261,.eS,16⟩:=by
 obtain⟨i,z,_,hi,aS,ai,ad,fa,hn⟩:=qd (P:=Tryz.prog) (t:=140) (e:=261) (n:=bZ .eS) (bytes:=16) (by kernel_rfl)
 exact zr (c:=.eS) Tryz.zaA i z 16 hi aS ai ad fa hn Tryz.sizeOf261
theorem Qj{G:a8}:bJ bj G 223 CV:=fun x hx=>Hs zaB x hx
end Go.aL
