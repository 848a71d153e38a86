/- From what a card tells to what the plain laws ask. Conditions: none. -/
import Derived.Test.YtmkpmgfieagphaaGreatDoorPLl
import Derived.Test.YtmkpmgfieagphaaGreatDoorPBr
namespace Go.Av
open Go Go.Hh
theorem d64 {x : Int} (h : OkD ⟨.int .i64, x⟩) : I64 x := by
 cases h
 rename_i h
 have h : (decide (-9223372036854775808 ≤ x) && decide (x ≤ 9223372036854775807)) = true := h
 rw [Bool.and_eq_true] at h
 have h1 := of_decide_eq_true h.1
 have h2 := of_decide_eq_true h.2
 exact ⟨h1, by omega⟩
theorem dSz {x : ByteArray} (h : OkD ⟨.str, x⟩) : Sz x := by
 cases h
 rename_i h
 exact h
theorem okAct {x : ActV} (h : OkA ⟨.st .ActV, x⟩) : OkAct x := by
 have hh : ∀ (i : Nat) (d : Dyn), (cD .ActV x)[i]? = some d → OkD d := fun i d hi => h d (List.mem_of_getElem? hi)
 exact ⟨d64 (hh 0 _ rfl), d64 (hh 1 _ rfl), d64 (hh 2 _ rfl), d64 (hh 3 _ rfl), dSz (hh 4 _ rfl), dSz (hh 5 _ rfl), ⟨d64 (hh 6 _ rfl), d64 (hh 7 _ rfl), dSz (hh 8 _ rfl)⟩, d64 (hh 9 _ rfl), dSz (hh 10 _ rfl), dSz (hh 11 _ rfl), dSz (hh 12 _ rfl),
  ⟨d64 (hh 13 _ rfl), d64 (hh 14 _ rfl), d64 (hh 15 _ rfl), dSz (hh 16 _ rfl), dSz (hh 17 _ rfl), dSz (hh 18 _ rfl), ⟨d64 (hh 19 _ rfl), d64 (hh 20 _ rfl), dSz (hh 21 _ rfl)⟩, dSz (hh 22 _ rfl)⟩⟩
end Go.Av
