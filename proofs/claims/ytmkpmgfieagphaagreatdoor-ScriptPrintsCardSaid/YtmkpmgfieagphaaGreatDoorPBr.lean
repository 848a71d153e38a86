/- What the claims share. Conditions: none. -/
import Derived.Test.YtmkpmgfieagphaaGreatDoorPTEk
import Derived.Test.YtmkpmgfieagphaaGreatDoorPPz
import Derived.Test.YtmkpmgfieagphaaGreatDoorPPg
import Derived.Test.YtmkpmgfieagphaaGreatDoorRows
import Derived.Lib.LaidTab
import Derived.SevenTiedAt
import Derived.Stop.LaidErr
open Go Go.Av Go.Hh Go.Proofs Go.ChangeShapes Go.WideShapes Go.ChangeAt Go.WideMaps Go.WideElems Go.RowKit
namespace Go.Proofs.YtmkpmgfieagphaaGreatDoor
theorem own : ownKnob Tryz.prog.godebug = none := by kernel_rfl
theorem kids : Kids Tryz.prog (· < Tryz.prog.types.size) := kids_rows (by kernel_rfl) (by kernel_rfl)
theorem full : ∀ t e, t < Tryz.prog.types.size → Tryz.prog.underlying t = some (.slice e) → 0 < Tryz.prog.cellsOf e := slices_full_of Tryz.prog (by kernel_rfl)
def laidL : List (String × DataW Unit) := Rows.scriptPrintsRow.laid
theorem door_met (os : Os) (args : Array Value) : laidMetH Tryz.prog laidL ((World.doorLaid Tryz.prog 400 os).forCall (fun _ _ => 0) ⟨#[], args, []⟩).memory :=
 laidMetH_of_parts3 (fuel := 8) (laidMet_of_run' 8 (by kernel_rfl) (by kernel_rfl)) (by kernel_rfl) (by kernel_rfl)
theorem pow_met {W : World} (h : laidMetH Tryz.prog laidL W) : Lib.TabIs Tryz.prog W (Rows.scriptPrintsRow.laid.getD 2 ("", .nil)).1 .u64 Lib.pow10Tab := by
 rw [MakeChecks.laidMetH_plain _ _ _ (by kernel_rfl)] at h
 have h2 := laidMet.tail (laidMet.tail h)
 exact Lib.tabIs_of_head (g := 2) (t := 328) (e := 63) (n := 20) (by kernel_rfl) (by kernel_rfl) (by kernel_rfl) (by kernel_rfl) (by kernel_rfl) (by kernel_rfl) (rest := []) h2
def G_ : Glob := fun g => match Nat.beq g 2 with
 | true => some (Lib.pow10Tab.map fun z => RV.v (.int .u64 z))
 | false => none
theorem glob_met {W : World} (h : laidMetH Tryz.prog laidL W) : GRel W (allRo W) G_ := by
 have ht := pow_met h
 unfold Lib.TabIs World.var? at ht
 rw [show Tryz.prog.globalNamed (Rows.scriptPrintsRow.laid.getD 2 ("", .nil)).1 = some 2 by kernel_rfl] at ht
 simp only [Option.bind_some] at ht
 intro g cs hg
 unfold G_ at hg
 split at hg
 ·rename_i hb
  cases hg
  obtain rfl := Nat.eq_of_beq_eq_true hb
  split at ht
  ·rename_i arr t fr hh
   cases ht
   have hlt : 2 < W.heap.size := (Array.getElem?_eq_some_iff.1 hh).1
   refine ⟨.ptr _ _ (fun j => .int .u64 (Lib.pow10Tab.getD j 0)) (fun j x hj => ⟨hlt, ?_⟩) (fun j x hj => ?_), hlt, _, t, fr, hh, by simp⟩
   ·have hjl : j < Lib.pow10Tab.length := by have := (List.getElem?_eq_some_iff.1 hj).1; simpa using this
    rw [addLit, Nat.zero_add, cell_of_row W 2 j _ t fr hh]
    simp [List.getD, hjl]
   ·have hjl : j < Lib.pow10Tab.length := by have := (List.getElem?_eq_some_iff.1 hj).1; simpa using this
    rw [List.getElem?_map, List.getElem?_eq_getElem hjl] at hj
    cases hj
    simp only [List.getD, List.getElem?_eq_getElem hjl, Option.getD_some]
    exact .v _ rfl
  ·cases ht
 ·cases hg
end Go.Proofs.YtmkpmgfieagphaaGreatDoor
