/- From what a card tells to what the plain laws ask. Conditions: none. -/
import Derived.Test.YtmkpmgfieagphaaDoorKLl
import Derived.Test.YtmkpmgfieagphaaDoorKBr
namespace Go.aG
open Go Go.du
theorem d64{x:Int}(h:jY ⟨.int .i64,x⟩):dK x:=by
 cases h
 rename_i h
 have h:(decide (-9223372036854775808≤x)&&decide (x≤9223372036854775807))=true:=h
 rw[Bool.and_eq_true]at h
 have aa:=of_decide_eq_true h.1
 have af:=of_decide_eq_true h.2
 exact⟨aa,by omega⟩
theorem l5{x:ByteArray}(h:jY ⟨.str,x⟩):bD x:=by
 cases h
 rename_i h
 exact h
theorem Pd{x:aT}(h:q9 ⟨.st .aT,x⟩):gF x:=by
 have aV: ∀(i:Nat) (d:aS),(kW .aT x)[i]? =some d→jY d:=fun i d hi=>h d (List.mem_of_getElem? hi)
 exact⟨d64 (aV 0 _ rfl),d64 (aV 1 _ rfl),d64 (aV 2 _ rfl),d64 (aV 3 _ rfl),l5 (aV 4 _ rfl),l5 (aV 5 _ rfl),⟨d64 (aV 6 _ rfl),d64 (aV 7 _ rfl),l5 (aV 8 _ rfl)⟩,d64 (aV 9 _ rfl),l5 (aV 10 _ rfl),l5 (aV 11 _ rfl),l5 (aV 12 _ rfl),
  ⟨d64 (aV 13 _ rfl),d64 (aV 14 _ rfl),d64 (aV 15 _ rfl),l5 (aV 16 _ rfl),l5 (aV 17 _ rfl),l5 (aV 18 _ rfl),⟨d64 (aV 19 _ rfl),d64 (aV 20 _ rfl),l5 (aV 21 _ rfl)⟩,l5 (aV 22 _ rfl)⟩⟩
end Go.aG
