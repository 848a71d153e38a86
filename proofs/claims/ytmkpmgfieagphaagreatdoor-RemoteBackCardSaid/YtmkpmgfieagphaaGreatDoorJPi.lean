/- Contracts by hand: copies that nobody writes. Conditions: none. -/
import Derived.Test.YtmkpmgfieagphaaGreatDoorJPh
namespace Go.Proofs
open Go.Shelf Go.aM
def Tryz.Zl:Go.Shelf.Ren:=⟨fun|41=>224|n=>n,fun|4=>4|22=>58|23=>9|n=>n,fun|n=>n⟩
theorem Tryz.Zm:Go.Proofs.SlLaysE0.n41 Tryz.prog Tryz.Zl:={
 mixed:=by kernel_rfl
 f41:=⟨"slices.Clone[[]string,string]",by kernel_rfl,Tryz.func224.trans (congrArg some (by kernel_rfl))⟩
 t4:=Tryz.underlying4
 a4:=Tryz.isAgg4
 z4:=Tryz.sizeOf4
 v4:=Tryz.zeroValue4
 t22:=Tryz.underlying58
 a22:=Tryz.isAgg58
 z22:=Tryz.sizeOf58
 v22:=Tryz.zeroValue58}
end Go.Proofs
namespace Go.aM
open Go Go.Proofs
theorem Zn{G:a8}:nL Tryz.prog G ⟨224,9,.str,16⟩:=by
 obtain⟨i,z,_,hi,aQ,ai,ad,e9,hn⟩:=p8 (P:=Tryz.prog) (t:=58) (e:=9) (n:=bZ .str) (bytes:=16) (by kernel_rfl)
 exact y2 (c:=.str) Tryz.Zm i z 16 hi aQ ai ad e9 hn Tryz.sizeOf9
theorem Zo{G:a8}:bG bj G 224 Ct:=fun x hx=>GZ Zn x hx
end Go.aM
namespace Go.Proofs
open Go.Shelf Go.aM
def Tryz.Zp:Go.Shelf.Ren:=⟨fun|41=>262|n=>n,fun|4=>4|22=>196|23=>236|n=>n,fun|n=>n⟩
theorem Tryz.Zq:Go.Proofs.SlLaysE0.n41 Tryz.prog Tryz.Zp:={
 mixed:=by kernel_rfl
 f41:=⟨"slices.Clone[[]homehub/api.Effect,homehub/api.Effect]",by kernel_rfl,Tryz.func262.trans (congrArg some (by kernel_rfl))⟩
 t4:=Tryz.underlying4
 a4:=Tryz.isAgg4
 z4:=Tryz.sizeOf4
 v4:=Tryz.zeroValue4
 t22:=Tryz.underlying196
 a22:=Tryz.isAgg196
 z22:=Tryz.sizeOf196
 v22:=Tryz.zeroValue196}
end Go.Proofs
namespace Go.aM
open Go Go.Proofs
theorem Zr{G:a8}:nL Tryz.prog G ⟨262,236,.cM,32⟩:=by
 obtain⟨i,z,_,hi,aQ,ai,ad,e9,hn⟩:=p8 (P:=Tryz.prog) (t:=196) (e:=236) (n:=bZ .cM) (bytes:=32) (by kernel_rfl)
 exact y2 (c:=.cM) Tryz.Zq i z 32 hi aQ ai ad e9 hn Tryz.sizeOf236
theorem Zs{G:a8}:bG bj G 262 Cu:=fun x hx=>GZ Zr x hx
end Go.aM
namespace Go.Proofs
open Go.Shelf Go.aM
def Tryz.Zt:Go.Shelf.Ren:=⟨fun|41=>223|n=>n,fun|4=>4|22=>140|23=>261|n=>n,fun|n=>n⟩
theorem Tryz.Zu:Go.Proofs.SlLaysE0.n41 Tryz.prog Tryz.Zt:={
 mixed:=by kernel_rfl
 f41:=⟨"slices.Clone[[]homehub/api.Span,homehub/api.Span]",by kernel_rfl,Tryz.func223.trans (congrArg some (by kernel_rfl))⟩
 t4:=Tryz.underlying4
 a4:=Tryz.isAgg4
 z4:=Tryz.sizeOf4
 v4:=Tryz.zeroValue4
 t22:=Tryz.underlying140
 a22:=Tryz.isAgg140
 z22:=Tryz.sizeOf140
 v22:=Tryz.zeroValue140}
end Go.Proofs
namespace Go.aM
open Go Go.Proofs
theorem Zv{G:a8}:nL Tryz.prog G ⟨223,261,.eT,16⟩:=by
 obtain⟨i,z,_,hi,aQ,ai,ad,e9,hn⟩:=p8 (P:=Tryz.prog) (t:=140) (e:=261) (n:=bZ .eT) (bytes:=16) (by kernel_rfl)
 exact y2 (c:=.eT) Tryz.Zu i z 16 hi aQ ai ad e9 hn Tryz.sizeOf261
theorem Zw{G:a8}:bG bj G 223 Cv:=fun x hx=>GZ Zv x hx
end Go.aM
