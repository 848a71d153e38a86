/- From what a card tells to what the plain laws ask. Conditions: none. -/
import Derived.Test.YtmkpmgfieagphaaGreatDoorRLl
import Derived.Test.YtmkpmgfieagphaaGreatDoorRBr
namespace Go.aM
open Go Go.ed
theorem d64{x:Int}(h:kO ⟨.int .i64,x⟩):di x:=by
 cases h
 rename_i h
 have h:(decide (-9223372036854775808≤x)&&decide (x≤9223372036854775807))=true:=h
 rw[Bool.and_eq_true]at h
 have aa:=of_decide_eq_true h.1
 have ad:=of_decide_eq_true h.2
 exact⟨aa,by omega⟩
theorem oh{x:ByteArray}(h:kO ⟨.str,x⟩):bz x:=by
 cases h
 rename_i h
 exact h
theorem Tq{x:aK}(h:s3 ⟨.st .aK,x⟩):hM x:=by
 have aX: ∀(i:Nat) (d:aD),(l3 .aK x)[i]? =some d→kO d:=fun i d hi=>h d (List.mem_of_getElem? hi)
 exact⟨d64 (aX 0 _ rfl),d64 (aX 1 _ rfl),d64 (aX 2 _ rfl),d64 (aX 3 _ rfl),oh (aX 4 _ rfl),oh (aX 5 _ rfl),⟨d64 (aX 6 _ rfl),d64 (aX 7 _ rfl),oh (aX 8 _ rfl)⟩,d64 (aX 9 _ rfl),oh (aX 10 _ rfl),oh (aX 11 _ rfl),oh (aX 12 _ rfl),
  ⟨d64 (aX 13 _ rfl),d64 (aX 14 _ rfl),d64 (aX 15 _ rfl),oh (aX 16 _ rfl),oh (aX 17 _ rfl),oh (aX 18 _ rfl),⟨d64 (aX 19 _ rfl),d64 (aX 20 _ rfl),oh (aX 21 _ rfl)⟩,oh (aX 22 _ rfl)⟩⟩
end Go.aM
