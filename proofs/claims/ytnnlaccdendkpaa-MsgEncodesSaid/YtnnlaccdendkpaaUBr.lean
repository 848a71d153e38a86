/- From the arguments of the statements to structures. Conditions: none. -/
import Derived.Test.YtnnlaccdendkpaaUA1
import Derived.Test.YtnnlaccdendkpaaUMy
import Derived.Test.YtnnlaccdendkpaaRows
namespace Go.Proofs.Ytnnlaccdendkpaa
open Go Go.Av Go.Hh Go.Proofs Go.ChangeShapes Go.WideShapes Go.ChangeAt Go.WideMaps Go.WideElems Go.RowKit
set_option maxRecDepth 100000
set_option maxHeartbeats 4000000
theorem sh_51 {rs : List RV} (h : Sh Try.prog 51 rs) : ∃ a : KeyV, rs = a.cells := by
 obtain ⟨parts, rfl, hl, hp⟩ := h.struct_inv (ts := [3, 9, 9]) (by kernel_rfl)
 match parts, hl, hp with
 | [p0, p1, p2], _, hp =>
  obtain ⟨x0, rfl, hwx0⟩ := (hp 0 3 _ rfl rfl).int_inv (k := .i64) (by kernel_rfl)
  obtain ⟨x1, rfl, _⟩ := (hp 1 9 _ rfl rfl).str_inv (by kernel_rfl)
  obtain ⟨x2, rfl, _⟩ := (hp 2 9 _ rfl rfl).str_inv (by kernel_rfl)
  exact ⟨⟨x0, x1, x2⟩, by kernel_rfl⟩
theorem sh_53 {rs : List RV} (h : Sh Try.prog 53 rs) : ∃ a : Val, rs = a.cells := by
 obtain ⟨parts, rfl, hl, hp⟩ := h.struct_inv (ts := [3, 3, 9]) (by kernel_rfl)
 match parts, hl, hp with
 | [p0, p1, p2], _, hp =>
  obtain ⟨x0, rfl, hwx0⟩ := (hp 0 3 _ rfl rfl).int_inv (k := .i64) (by kernel_rfl)
  obtain ⟨x1, rfl, hwx1⟩ := (hp 1 3 _ rfl rfl).int_inv (k := .i64) (by kernel_rfl)
  obtain ⟨x2, rfl, _⟩ := (hp 2 9 _ rfl rfl).str_inv (by kernel_rfl)
  exact ⟨⟨x0, x1, x2⟩, by kernel_rfl⟩
theorem sh_55 {rs : List RV} (h : Sh Try.prog 55 rs) : ∃ a : ItemV, rs = a.cells := by
 obtain ⟨parts, rfl, hl, hp⟩ := h.struct_inv (ts := [51, 53, 3]) (by kernel_rfl)
 match parts, hl, hp with
 | [p0, p1, p2], _, hp =>
  obtain ⟨x0, rfl⟩ := sh_51 (hp 0 51 _ rfl rfl)
  obtain ⟨x1, rfl⟩ := sh_53 (hp 1 53 _ rfl rfl)
  obtain ⟨x2, rfl, hwx2⟩ := (hp 2 3 _ rfl rfl).int_inv (k := .i64) (by kernel_rfl)
  exact ⟨⟨x0, x1, x2⟩, by kernel_rfl⟩
theorem sh_24 {rs : List RV} (h : Sh Try.prog 24 rs) : ∃ a : MsgV, rs = a.cells := by
 obtain ⟨parts, rfl, hl, hp⟩ := h.struct_inv (ts := [3, 3, 3, 3, 22, 9, 9, 9]) (by kernel_rfl)
 match parts, hl, hp with
 | [p0, p1, p2, p3, p4, p5, p6, p7], _, hp =>
  obtain ⟨x0, rfl, hwx0⟩ := (hp 0 3 _ rfl rfl).int_inv (k := .i64) (by kernel_rfl)
  obtain ⟨x1, rfl, hwx1⟩ := (hp 1 3 _ rfl rfl).int_inv (k := .i64) (by kernel_rfl)
  obtain ⟨x2, rfl, hwx2⟩ := (hp 2 3 _ rfl rfl).int_inv (k := .i64) (by kernel_rfl)
  obtain ⟨x3, rfl, hwx3⟩ := (hp 3 3 _ rfl rfl).int_inv (k := .i64) (by kernel_rfl)
  obtain ⟨x4s, rfl, hlx4, hsx4⟩ := (hp 4 22 _ rfl rfl).slice_inv (e := 55) (by kernel_rfl)
  obtain ⟨x4, rfl⟩ := list_of (C := ItemV.cells) fun x hx => sh_55 (hsx4 x hx)
  obtain ⟨x5, rfl, _⟩ := (hp 5 9 _ rfl rfl).str_inv (by kernel_rfl)
  obtain ⟨x6, rfl, _⟩ := (hp 6 9 _ rfl rfl).str_inv (by kernel_rfl)
  obtain ⟨x7, rfl, _⟩ := (hp 7 9 _ rfl rfl).str_inv (by kernel_rfl)
  exact ⟨⟨x0, x1, x2, x3, x4, x5, x6, x7⟩, by kernel_rfl⟩
theorem own : ownKnob Try.prog.godebug = none := by kernel_rfl
theorem kids : Kids Try.prog (· < Try.prog.types.size) := kids_rows (by kernel_rfl) (by kernel_rfl)
theorem full : ∀ t e, t < Try.prog.types.size → Try.prog.underlying t = some (.slice e) → 0 < Try.prog.cellsOf e := slices_full_of Try.prog (by kernel_rfl)
theorem glob_met {W : World} : GRel W (allRo W) G_ := fun _ _ h => by cases h
end Go.Proofs.Ytnnlaccdendkpaa
