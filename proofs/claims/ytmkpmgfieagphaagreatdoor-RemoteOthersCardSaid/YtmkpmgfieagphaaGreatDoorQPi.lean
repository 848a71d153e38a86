/- Contracts by hand: copies that nobody writes. Conditions: none. -/
import Derived.Test.YtmkpmgfieagphaaGreatDoorQPh
namespace Go.Proofs
open Go.Shelf Go.aK
def Tryz.Y1:Go.Shelf.Ren:=⟨fun|41=>224|n=>n,fun|4=>4|22=>58|23=>9|n=>n,fun|n=>n⟩
theorem Tryz.Y2:Go.Proofs.SlLaysE0.n41 Tryz.prog Tryz.Y1:={
 mixed:=by kernel_rfl
 f41:=⟨"slices.Clone[[]string,string]",by kernel_rfl,Tryz.func224.trans (congrArg some (by kernel_rfl))⟩
 t4:=Tryz.underlying4
 a4:=Tryz.isAgg4
 z4:=Tryz.sizeOf4
 v4:=Tryz.zeroValue4
 t22:=Tryz.underlying58
 a22:=Tryz.isAgg58
 z22:=Tryz.sizeOf58
 v22:=Tryz.zeroValue58}
end Go.Proofs
namespace Go.aK
open Go Go.Proofs
theorem Y3{G:a8}:na Tryz.prog G ⟨224,9,.str,16⟩:=by
 obtain⟨i,z,_,hi,aV,ai,ad,e8,hn⟩:=pF (P:=Tryz.prog) (t:=58) (e:=9) (n:=bZ .str) (bytes:=16) (by kernel_rfl)
 exact yk (c:=.str) Tryz.Y2 i z 16 hi aV ai ad e8 hn Tryz.sizeOf9
theorem Oy{G:a8}:bE bj G 224 By:=fun x hx=>FP Y3 x hx
end Go.aK
namespace Go.Proofs
open Go.Shelf Go.aK
def Tryz.Y4:Go.Shelf.Ren:=⟨fun|41=>262|n=>n,fun|4=>4|22=>196|23=>236|n=>n,fun|n=>n⟩
theorem Tryz.Y5:Go.Proofs.SlLaysE0.n41 Tryz.prog Tryz.Y4:={
 mixed:=by kernel_rfl
 f41:=⟨"slices.Clone[[]homehub/api.Effect,homehub/api.Effect]",by kernel_rfl,Tryz.func262.trans (congrArg some (by kernel_rfl))⟩
 t4:=Tryz.underlying4
 a4:=Tryz.isAgg4
 z4:=Tryz.sizeOf4
 v4:=Tryz.zeroValue4
 t22:=Tryz.underlying196
 a22:=Tryz.isAgg196
 z22:=Tryz.sizeOf196
 v22:=Tryz.zeroValue196}
end Go.Proofs
namespace Go.aK
open Go Go.Proofs
theorem Y6{G:a8}:na Tryz.prog G ⟨262,236,.cS,32⟩:=by
 obtain⟨i,z,_,hi,aV,ai,ad,e8,hn⟩:=pF (P:=Tryz.prog) (t:=196) (e:=236) (n:=bZ .cS) (bytes:=32) (by kernel_rfl)
 exact yk (c:=.cS) Tryz.Y5 i z 32 hi aV ai ad e8 hn Tryz.sizeOf236
theorem Oz{G:a8}:bE bj G 262 Bz:=fun x hx=>FP Y6 x hx
end Go.aK
namespace Go.Proofs
open Go.Shelf Go.aK
def Tryz.Y7:Go.Shelf.Ren:=⟨fun|41=>223|n=>n,fun|4=>4|22=>140|23=>261|n=>n,fun|n=>n⟩
theorem Tryz.Y8:Go.Proofs.SlLaysE0.n41 Tryz.prog Tryz.Y7:={
 mixed:=by kernel_rfl
 f41:=⟨"slices.Clone[[]homehub/api.Span,homehub/api.Span]",by kernel_rfl,Tryz.func223.trans (congrArg some (by kernel_rfl))⟩
 t4:=Tryz.underlying4
 a4:=Tryz.isAgg4
 z4:=Tryz.sizeOf4
 v4:=Tryz.zeroValue4
 t22:=Tryz.underlying140
 a22:=Tryz.isAgg140
 z22:=Tryz.sizeOf140
 v22:=Tryz.zeroValue140}
end Go.Proofs
namespace Go.aK
open Go Go.Proofs
theorem Y9{G:a8}:na Tryz.prog G ⟨223,261,.eR,16⟩:=by
 obtain⟨i,z,_,hi,aV,ai,ad,e8,hn⟩:=pF (P:=Tryz.prog) (t:=140) (e:=261) (n:=bZ .eR) (bytes:=16) (by kernel_rfl)
 exact yk (c:=.eR) Tryz.Y8 i z 16 hi aV ai ad e8 hn Tryz.sizeOf261
theorem OA{G:a8}:bE bj G 223 BA:=fun x hx=>FP Y9 x hx
end Go.aK
