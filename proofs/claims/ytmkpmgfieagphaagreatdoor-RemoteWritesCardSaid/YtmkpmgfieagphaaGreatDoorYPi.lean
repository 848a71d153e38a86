/- Contracts by hand: copies that nobody writes. Conditions: none. -/
import Derived.Test.YtmkpmgfieagphaaGreatDoorYPh
namespace Go.Proofs
open Go.Shelf Go.aO
def Tryz.Z5:Go.Shelf.Ren:=⟨fun|41=>224|n=>n,fun|4=>4|22=>58|23=>9|n=>n,fun|n=>n⟩
theorem Tryz.Z6:Go.Proofs.SlLaysE0.n41 Tryz.prog Tryz.Z5:={
 mixed:=by kernel_rfl
 f41:=⟨"slices.Clone[[]string,string]",by kernel_rfl,Tryz.func224.trans (congrArg some (by kernel_rfl))⟩
 t4:=Tryz.underlying4
 a4:=Tryz.isAgg4
 z4:=Tryz.sizeOf4
 v4:=Tryz.zeroValue4
 t22:=Tryz.underlying58
 a22:=Tryz.isAgg58
 z22:=Tryz.sizeOf58
 v22:=Tryz.zeroValue58}
end Go.Proofs
namespace Go.aO
open Go Go.Proofs
theorem Z7{G:bd}:nr Tryz.prog G ⟨224,9,.str,16⟩:=by
 obtain⟨i,z,_,hi,aS,ai,ad,fe,hn⟩:=pK (P:=Tryz.prog) (t:=58) (e:=9) (n:=b5 .str) (bytes:=16) (by kernel_rfl)
 exact y2 (c:=.str) Tryz.Z6 i z 16 hi aS ai ad fe hn Tryz.sizeOf9
theorem Z8{G:bd}:bG bj G 224 Cz:=fun x hx=>Hp Z7 x hx
end Go.aO
namespace Go.Proofs
open Go.Shelf Go.aO
def Tryz.Z9:Go.Shelf.Ren:=⟨fun|41=>262|n=>n,fun|4=>4|22=>196|23=>236|n=>n,fun|n=>n⟩
theorem Tryz.zaa:Go.Proofs.SlLaysE0.n41 Tryz.prog Tryz.Z9:={
 mixed:=by kernel_rfl
 f41:=⟨"slices.Clone[[]homehub/api.Effect,homehub/api.Effect]",by kernel_rfl,Tryz.func262.trans (congrArg some (by kernel_rfl))⟩
 t4:=Tryz.underlying4
 a4:=Tryz.isAgg4
 z4:=Tryz.sizeOf4
 v4:=Tryz.zeroValue4
 t22:=Tryz.underlying196
 a22:=Tryz.isAgg196
 z22:=Tryz.sizeOf196
 v22:=Tryz.zeroValue196}
end Go.Proofs
namespace Go.aO
open Go Go.Proofs
theorem zab{G:bd}:nr Tryz.prog G ⟨262,236,.bV,32⟩:=by
 obtain⟨i,z,_,hi,aS,ai,ad,fe,hn⟩:=pK (P:=Tryz.prog) (t:=196) (e:=236) (n:=b5 .bV) (bytes:=32) (by kernel_rfl)
 exact y2 (c:=.bV) Tryz.zaa i z 32 hi aS ai ad fe hn Tryz.sizeOf236
theorem zac{G:bd}:bG bj G 262 CA:=fun x hx=>Hp zab x hx
end Go.aO
namespace Go.Proofs
open Go.Shelf Go.aO
def Tryz.zad:Go.Shelf.Ren:=⟨fun|41=>223|n=>n,fun|4=>4|22=>140|23=>261|n=>n,fun|n=>n⟩
theorem Tryz.zae:Go.Proofs.SlLaysE0.n41 Tryz.prog Tryz.zad:={
 mixed:=by kernel_rfl
 f41:=⟨"slices.Clone[[]homehub/api.Span,homehub/api.Span]",by kernel_rfl,Tryz.func223.trans (congrArg some (by kernel_rfl))⟩
 t4:=Tryz.underlying4
 a4:=Tryz.isAgg4
 z4:=Tryz.sizeOf4
 v4:=Tryz.zeroValue4
 t22:=Tryz.underlying140
 a22:=Tryz.isAgg140
 z22:=Tryz.sizeOf140
 v22:=Tryz.zeroValue140}
end Go.Proofs
namespace Go.aO
open Go Go.Proofs
theorem zaf{G:bd}:nr Tryz.prog G ⟨223,261,.eZ,16⟩:=by
 obtain⟨i,z,_,hi,aS,ai,ad,fe,hn⟩:=pK (P:=Tryz.prog) (t:=140) (e:=261) (n:=b5 .eZ) (bytes:=16) (by kernel_rfl)
 exact y2 (c:=.eZ) Tryz.zae i z 16 hi aS ai ad fe hn Tryz.sizeOf261
theorem zag{G:bd}:bG bj G 223 CB:=fun x hx=>Hp zaf x hx
end Go.aO
