/- From the arguments of the statements to structures. Conditions: none. -/
import Derived.Test.YtnnlaccdendkpaaGreatPA1
import Derived.Test.YtnnlaccdendkpaaGreatPMy
import Derived.Test.YtnnlaccdendkpaaGreatRows
namespace Go.Proofs.YtnnlaccdendkpaaGreat
open Go Go.Av Go.Hh Go.Proofs Go.ChangeShapes Go.WideShapes Go.ChangeAt Go.WideMaps Go.WideElems Go.RowKit
set_option maxRecDepth 100000
set_option maxHeartbeats 4000000
theorem sh_9 {rs : List RV} (h : Sh Tryz.prog 9 rs) : ∃ a : ByteArray, rs = strC a := by
 obtain ⟨a, rfl, _⟩ := h.str_inv (by kernel_rfl)
 exact ⟨_, rfl⟩
theorem sh_77 {rs : List RV} (h : Sh Tryz.prog 77 rs) : ∃ a : Attr, rs = a.cells := by
 obtain ⟨parts, rfl, hl, hp⟩ := h.struct_inv (ts := [9, 3, 3, 3, 41, 4, 4]) (by kernel_rfl)
 match parts, hl, hp with
 | [p0, p1, p2, p3, p4, p5, p6], _, hp =>
  obtain ⟨x0, rfl, _⟩ := (hp 0 9 _ rfl rfl).str_inv (by kernel_rfl)
  obtain ⟨x1, rfl, hwx1⟩ := (hp 1 3 _ rfl rfl).int_inv (k := .i64) (by kernel_rfl)
  obtain ⟨x2, rfl, hwx2⟩ := (hp 2 3 _ rfl rfl).int_inv (k := .i64) (by kernel_rfl)
  obtain ⟨x3, rfl, hwx3⟩ := (hp 3 3 _ rfl rfl).int_inv (k := .i64) (by kernel_rfl)
  obtain ⟨x4s, rfl, hlx4, hsx4⟩ := (hp 4 41 _ rfl rfl).slice_inv (e := 9) (by kernel_rfl)
  obtain ⟨x4, rfl⟩ := list_of (C := strC) fun x hx => sh_9 (hsx4 x hx)
  obtain ⟨x5, rfl⟩ := (hp 5 4 _ rfl rfl).bool_inv (by kernel_rfl)
  obtain ⟨x6, rfl⟩ := (hp 6 4 _ rfl rfl).bool_inv (by kernel_rfl)
  exact ⟨⟨x0, x1, x2, x3, x4, x5, x6⟩, by kernel_rfl⟩
theorem sh_74 {rs : List RV} (h : Sh Tryz.prog 74 rs) : ∃ a : Effect, rs = a.cells := by
 obtain ⟨parts, rfl, hl, hp⟩ := h.struct_inv (ts := [3, 9, 3]) (by kernel_rfl)
 match parts, hl, hp with
 | [p0, p1, p2], _, hp =>
  obtain ⟨x0, rfl, hwx0⟩ := (hp 0 3 _ rfl rfl).int_inv (k := .i64) (by kernel_rfl)
  obtain ⟨x1, rfl, _⟩ := (hp 1 9 _ rfl rfl).str_inv (by kernel_rfl)
  obtain ⟨x2, rfl, hwx2⟩ := (hp 2 3 _ rfl rfl).int_inv (k := .i64) (by kernel_rfl)
  exact ⟨⟨x0, x1, x2⟩, by kernel_rfl⟩
theorem sh_79 {rs : List RV} (h : Sh Tryz.prog 79 rs) : ∃ a : Command, rs = a.cells := by
 obtain ⟨parts, rfl, hl, hp⟩ := h.struct_inv (ts := [9, 77, 75]) (by kernel_rfl)
 match parts, hl, hp with
 | [p0, p1, p2], _, hp =>
  obtain ⟨x0, rfl, _⟩ := (hp 0 9 _ rfl rfl).str_inv (by kernel_rfl)
  obtain ⟨x1, rfl⟩ := sh_77 (hp 1 77 _ rfl rfl)
  obtain ⟨x2s, rfl, hlx2, hsx2⟩ := (hp 2 75 _ rfl rfl).slice_inv (e := 74) (by kernel_rfl)
  obtain ⟨x2, rfl⟩ := list_of (C := Effect.cells) fun x hx => sh_74 (hsx2 x hx)
  exact ⟨⟨x0, x1, x2⟩, by kernel_rfl⟩
theorem sh_43 {rs : List RV} (h : Sh Tryz.prog 43 rs) : ∃ a : Cluster, rs = a.cells := by
 obtain ⟨parts, rfl, hl, hp⟩ := h.struct_inv (ts := [9, 39, 40, 41]) (by kernel_rfl)
 match parts, hl, hp with
 | [p0, p1, p2, p3], _, hp =>
  obtain ⟨x0, rfl, _⟩ := (hp 0 9 _ rfl rfl).str_inv (by kernel_rfl)
  obtain ⟨x1s, rfl, hlx1, hsx1⟩ := (hp 1 39 _ rfl rfl).slice_inv (e := 77) (by kernel_rfl)
  obtain ⟨x1, rfl⟩ := list_of (C := Attr.cells) fun x hx => sh_77 (hsx1 x hx)
  obtain ⟨x2s, rfl, hlx2, hsx2⟩ := (hp 2 40 _ rfl rfl).slice_inv (e := 79) (by kernel_rfl)
  obtain ⟨x2, rfl⟩ := list_of (C := Command.cells) fun x hx => sh_79 (hsx2 x hx)
  obtain ⟨x3s, rfl, hlx3, hsx3⟩ := (hp 3 41 _ rfl rfl).slice_inv (e := 9) (by kernel_rfl)
  obtain ⟨x3, rfl⟩ := list_of (C := strC) fun x hx => sh_9 (hsx3 x hx)
  exact ⟨⟨x0, x1, x2, x3⟩, by kernel_rfl⟩
theorem sh_46 {rs : List RV} (h : Sh Tryz.prog 46 rs) : ∃ a : Dev, rs = a.cells := by
 obtain ⟨parts, rfl, hl, hp⟩ := h.struct_inv (ts := [3, 44, 3, 4, 3, 9, 41]) (by kernel_rfl)
 match parts, hl, hp with
 | [p0, p1, p2, p3, p4, p5, p6], _, hp =>
  obtain ⟨x0, rfl, hwx0⟩ := (hp 0 3 _ rfl rfl).int_inv (k := .i64) (by kernel_rfl)
  obtain ⟨x1, rfl, hwx1⟩ := (hp 1 44 _ rfl rfl).int_inv (k := .u64) (by kernel_rfl)
  obtain ⟨x2, rfl, hwx2⟩ := (hp 2 3 _ rfl rfl).int_inv (k := .i64) (by kernel_rfl)
  obtain ⟨x3, rfl⟩ := (hp 3 4 _ rfl rfl).bool_inv (by kernel_rfl)
  obtain ⟨x4, rfl, hwx4⟩ := (hp 4 3 _ rfl rfl).int_inv (k := .i64) (by kernel_rfl)
  obtain ⟨x5, rfl, _⟩ := (hp 5 9 _ rfl rfl).str_inv (by kernel_rfl)
  obtain ⟨x6s, rfl, hlx6, hsx6⟩ := (hp 6 41 _ rfl rfl).slice_inv (e := 9) (by kernel_rfl)
  obtain ⟨x6, rfl⟩ := list_of (C := strC) fun x hx => sh_9 (hsx6 x hx)
  exact ⟨⟨x0, x1, x2, x3, x4, x5, x6⟩, by kernel_rfl⟩
theorem sh_25 {rs : List RV} (h : Sh Tryz.prog 25 rs) : ∃ a : Home, rs = a.cells := by
 obtain ⟨parts, rfl, hl, hp⟩ := h.struct_inv (ts := [22, 23]) (by kernel_rfl)
 match parts, hl, hp with
 | [p0, p1], _, hp =>
  obtain ⟨x0s, rfl, hlx0, hsx0⟩ := (hp 0 22 _ rfl rfl).slice_inv (e := 43) (by kernel_rfl)
  obtain ⟨x0, rfl⟩ := list_of (C := Cluster.cells) fun x hx => sh_43 (hsx0 x hx)
  obtain ⟨x1s, rfl, hlx1, hsx1⟩ := (hp 1 23 _ rfl rfl).slice_inv (e := 46) (by kernel_rfl)
  obtain ⟨x1, rfl⟩ := list_of (C := Dev.cells) fun x hx => sh_46 (hsx1 x hx)
  exact ⟨⟨x0, x1⟩, by kernel_rfl⟩
theorem sh_34 {rs : List RV} (h : Sh Tryz.prog 34 rs) : ∃ a : KeyV, rs = a.cells := by
 obtain ⟨parts, rfl, hl, hp⟩ := h.struct_inv (ts := [3, 9, 9]) (by kernel_rfl)
 match parts, hl, hp with
 | [p0, p1, p2], _, hp =>
  obtain ⟨x0, rfl, hwx0⟩ := (hp 0 3 _ rfl rfl).int_inv (k := .i64) (by kernel_rfl)
  obtain ⟨x1, rfl, _⟩ := (hp 1 9 _ rfl rfl).str_inv (by kernel_rfl)
  obtain ⟨x2, rfl, _⟩ := (hp 2 9 _ rfl rfl).str_inv (by kernel_rfl)
  exact ⟨⟨x0, x1, x2⟩, by kernel_rfl⟩
theorem sh_36 {rs : List RV} (h : Sh Tryz.prog 36 rs) : ∃ a : Val, rs = a.cells := by
 obtain ⟨parts, rfl, hl, hp⟩ := h.struct_inv (ts := [3, 3, 9]) (by kernel_rfl)
 match parts, hl, hp with
 | [p0, p1, p2], _, hp =>
  obtain ⟨x0, rfl, hwx0⟩ := (hp 0 3 _ rfl rfl).int_inv (k := .i64) (by kernel_rfl)
  obtain ⟨x1, rfl, hwx1⟩ := (hp 1 3 _ rfl rfl).int_inv (k := .i64) (by kernel_rfl)
  obtain ⟨x2, rfl, _⟩ := (hp 2 9 _ rfl rfl).str_inv (by kernel_rfl)
  exact ⟨⟨x0, x1, x2⟩, by kernel_rfl⟩
theorem sh_38 {rs : List RV} (h : Sh Tryz.prog 38 rs) : ∃ a : ItemV, rs = a.cells := by
 obtain ⟨parts, rfl, hl, hp⟩ := h.struct_inv (ts := [34, 36, 3]) (by kernel_rfl)
 match parts, hl, hp with
 | [p0, p1, p2], _, hp =>
  obtain ⟨x0, rfl⟩ := sh_34 (hp 0 34 _ rfl rfl)
  obtain ⟨x1, rfl⟩ := sh_36 (hp 1 36 _ rfl rfl)
  obtain ⟨x2, rfl, hwx2⟩ := (hp 2 3 _ rfl rfl).int_inv (k := .i64) (by kernel_rfl)
  exact ⟨⟨x0, x1, x2⟩, by kernel_rfl⟩
theorem sh_28 {rs : List RV} (h : Sh Tryz.prog 28 rs) : ∃ a : MsgV, rs = a.cells := by
 obtain ⟨parts, rfl, hl, hp⟩ := h.struct_inv (ts := [3, 3, 3, 3, 26, 9, 9, 9]) (by kernel_rfl)
 match parts, hl, hp with
 | [p0, p1, p2, p3, p4, p5, p6, p7], _, hp =>
  obtain ⟨x0, rfl, hwx0⟩ := (hp 0 3 _ rfl rfl).int_inv (k := .i64) (by kernel_rfl)
  obtain ⟨x1, rfl, hwx1⟩ := (hp 1 3 _ rfl rfl).int_inv (k := .i64) (by kernel_rfl)
  obtain ⟨x2, rfl, hwx2⟩ := (hp 2 3 _ rfl rfl).int_inv (k := .i64) (by kernel_rfl)
  obtain ⟨x3, rfl, hwx3⟩ := (hp 3 3 _ rfl rfl).int_inv (k := .i64) (by kernel_rfl)
  obtain ⟨x4s, rfl, hlx4, hsx4⟩ := (hp 4 26 _ rfl rfl).slice_inv (e := 38) (by kernel_rfl)
  obtain ⟨x4, rfl⟩ := list_of (C := ItemV.cells) fun x hx => sh_38 (hsx4 x hx)
  obtain ⟨x5, rfl, _⟩ := (hp 5 9 _ rfl rfl).str_inv (by kernel_rfl)
  obtain ⟨x6, rfl, _⟩ := (hp 6 9 _ rfl rfl).str_inv (by kernel_rfl)
  obtain ⟨x7, rfl, _⟩ := (hp 7 9 _ rfl rfl).str_inv (by kernel_rfl)
  exact ⟨⟨x0, x1, x2, x3, x4, x5, x6, x7⟩, by kernel_rfl⟩
theorem own : ownKnob Tryz.prog.godebug = none := by kernel_rfl
theorem kids : Kids Tryz.prog (· < Tryz.prog.types.size) := kids_rows (by kernel_rfl) (by kernel_rfl)
theorem full : ∀ t e, t < Tryz.prog.types.size → Tryz.prog.underlying t = some (.slice e) → 0 < Tryz.prog.cellsOf e := slices_full_of Tryz.prog (by kernel_rfl)
theorem glob_met {W : World} : GRel W (allRo W) G_ := fun _ _ h => by cases h
end Go.Proofs.YtnnlaccdendkpaaGreat
