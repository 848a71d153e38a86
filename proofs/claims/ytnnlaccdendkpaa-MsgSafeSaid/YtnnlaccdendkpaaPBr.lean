/- From the arguments of the statements to structures. Conditions: none. -/
import Derived.Test.YtnnlaccdendkpaaPA1
import Derived.Test.YtnnlaccdendkpaaPMy
import Derived.Test.YtnnlaccdendkpaaRows
namespace Go.Proofs.Ytnnlaccdendkpaa
open Go Go.Av Go.Hh Go.Proofs Go.ChangeShapes Go.WideShapes Go.ChangeAt Go.WideMaps Go.WideElems Go.RowKit
set_option maxRecDepth 100000
set_option maxHeartbeats 4000000
theorem sh_51 {rs : List RV} (h : Sh Try.prog 51 rs) : ∃ a : KeyV, rs = a.cells := by
 obtain ⟨parts, rfl, hl, hp⟩ := h.struct_inv (ts := [3, 9, 9]) (by kernel_rfl)
 match parts, hl, hp with
 | [p0, p1, p2], _, hp =>
  obtain ⟨x0, rfl, hwx0⟩ := (hp 0 3 _ rfl rfl).int_inv (k := .i64) (by kernel_rfl)
  obtain ⟨x1, rfl, _⟩ := (hp 1 9 _ rfl rfl).str_inv (by kernel_rfl)
  obtain ⟨x2, rfl, _⟩ := (hp 2 9 _ rfl rfl).str_inv (by kernel_rfl)
  exact ⟨⟨x0, x1, x2⟩, by kernel_rfl⟩
theorem sh_53 {rs : List RV} (h : Sh Try.prog 53 rs) : ∃ a : Val, rs = a.cells := by
 obtain ⟨parts, rfl, hl, hp⟩ := h.struct_inv (ts := [3, 3, 9]) (by kernel_rfl)
 match parts, hl, hp with
 | [p0, p1, p2], _, hp =>
  obtain ⟨x0, rfl, hwx0⟩ := (hp 0 3 _ rfl rfl).int_inv (k := .i64) (by kernel_rfl)
  obtain ⟨x1, rfl, hwx1⟩ := (hp 1 3 _ rfl rfl).int_inv (k := .i64) (by kernel_rfl)
  obtain ⟨x2, rfl, _⟩ := (hp 2 9 _ rfl rfl).str_inv (by kernel_rfl)
  exact ⟨⟨x0, x1, x2⟩, by kernel_rfl⟩
theorem sh_55 {rs : List RV} (h : Sh Try.prog 55 rs) : ∃ a : ItemV, rs = a.cells := by
 obtain ⟨parts, rfl, hl, hp⟩ := h.struct_inv (ts := [51, 53, 3]) (by kernel_rfl)
 match parts, hl, hp with
 | [p0, p1, p2], _, hp =>
  obtain ⟨x0, rfl⟩ := sh_51 (hp 0 51 _ rfl rfl)
  obtain ⟨x1, rfl⟩ := sh_53 (hp 1 53 _ rfl rfl)
  obtain ⟨x2, rfl, hwx2⟩ := (hp 2 3 _ rfl rfl).int_inv (k := .i64) (by kernel_rfl)
  exact ⟨⟨x0, x1, x2⟩, by kernel_rfl⟩
theorem sh_24 {rs : List RV} (h : Sh Try.prog 24 rs) : ∃ a : MsgV, rs = a.cells := by
 obtain ⟨parts, rfl, hl, hp⟩ := h.struct_inv (ts := [3, 3, 3, 3, 22, 9, 9, 9]) (by kernel_rfl)
 match parts, hl, hp with
 | [p0, p1, p2, p3, p4, p5, p6, p7], _, hp =>
  obtain ⟨x0, rfl, hwx0⟩ := (hp 0 3 _ rfl rfl).int_inv (k := .i64) (by kernel_rfl)
  obtain ⟨x1, rfl, hwx1⟩ := (hp 1 3 _ rfl rfl).int_inv (k := .i64) (by kernel_rfl)
  obtain ⟨x2, rfl, hwx2⟩ := (hp 2 3 _ rfl rfl).int_inv (k := .i64) (by kernel_rfl)
  obtain ⟨x3, rfl, hwx3⟩ := (hp 3 3 _ rfl rfl).int_inv (k := .i64) (by kernel_rfl)
  obtain ⟨x4s, rfl, hlx4, hsx4⟩ := (hp 4 22 _ rfl rfl).slice_inv (e := 55) (by kernel_rfl)
  obtain ⟨x4, rfl⟩ := list_of (C := ItemV.cells) fun x hx => sh_55 (hsx4 x hx)
  obtain ⟨x5, rfl, _⟩ := (hp 5 9 _ rfl rfl).str_inv (by kernel_rfl)
  obtain ⟨x6, rfl, _⟩ := (hp 6 9 _ rfl rfl).str_inv (by kernel_rfl)
  obtain ⟨x7, rfl, _⟩ := (hp 7 9 _ rfl rfl).str_inv (by kernel_rfl)
  exact ⟨⟨x0, x1, x2, x3, x4, x5, x6, x7⟩, by kernel_rfl⟩
theorem sh_9 {rs : List RV} (h : Sh Try.prog 9 rs) : ∃ a : ByteArray, rs = strC a := by
 obtain ⟨a, rfl, _⟩ := h.str_inv (by kernel_rfl)
 exact ⟨_, rfl⟩
theorem sh_48 {rs : List RV} (h : Sh Try.prog 48 rs) : ∃ a : Attr, rs = a.cells := by
 obtain ⟨parts, rfl, hl, hp⟩ := h.struct_inv (ts := [9, 3, 3, 3, 44, 4, 4]) (by kernel_rfl)
 match parts, hl, hp with
 | [p0, p1, p2, p3, p4, p5, p6], _, hp =>
  obtain ⟨x0, rfl, _⟩ := (hp 0 9 _ rfl rfl).str_inv (by kernel_rfl)
  obtain ⟨x1, rfl, hwx1⟩ := (hp 1 3 _ rfl rfl).int_inv (k := .i64) (by kernel_rfl)
  obtain ⟨x2, rfl, hwx2⟩ := (hp 2 3 _ rfl rfl).int_inv (k := .i64) (by kernel_rfl)
  obtain ⟨x3, rfl, hwx3⟩ := (hp 3 3 _ rfl rfl).int_inv (k := .i64) (by kernel_rfl)
  obtain ⟨x4s, rfl, hlx4, hsx4⟩ := (hp 4 44 _ rfl rfl).slice_inv (e := 9) (by kernel_rfl)
  obtain ⟨x4, rfl⟩ := list_of (C := strC) fun x hx => sh_9 (hsx4 x hx)
  obtain ⟨x5, rfl⟩ := (hp 5 4 _ rfl rfl).bool_inv (by kernel_rfl)
  obtain ⟨x6, rfl⟩ := (hp 6 4 _ rfl rfl).bool_inv (by kernel_rfl)
  exact ⟨⟨x0, x1, x2, x3, x4, x5, x6⟩, by kernel_rfl⟩
theorem sh_86 {rs : List RV} (h : Sh Try.prog 86 rs) : ∃ a : Effect, rs = a.cells := by
 obtain ⟨parts, rfl, hl, hp⟩ := h.struct_inv (ts := [3, 9, 3]) (by kernel_rfl)
 match parts, hl, hp with
 | [p0, p1, p2], _, hp =>
  obtain ⟨x0, rfl, hwx0⟩ := (hp 0 3 _ rfl rfl).int_inv (k := .i64) (by kernel_rfl)
  obtain ⟨x1, rfl, _⟩ := (hp 1 9 _ rfl rfl).str_inv (by kernel_rfl)
  obtain ⟨x2, rfl, hwx2⟩ := (hp 2 3 _ rfl rfl).int_inv (k := .i64) (by kernel_rfl)
  exact ⟨⟨x0, x1, x2⟩, by kernel_rfl⟩
theorem sh_89 {rs : List RV} (h : Sh Try.prog 89 rs) : ∃ a : Command, rs = a.cells := by
 obtain ⟨parts, rfl, hl, hp⟩ := h.struct_inv (ts := [9, 48, 87]) (by kernel_rfl)
 match parts, hl, hp with
 | [p0, p1, p2], _, hp =>
  obtain ⟨x0, rfl, _⟩ := (hp 0 9 _ rfl rfl).str_inv (by kernel_rfl)
  obtain ⟨x1, rfl⟩ := sh_48 (hp 1 48 _ rfl rfl)
  obtain ⟨x2s, rfl, hlx2, hsx2⟩ := (hp 2 87 _ rfl rfl).slice_inv (e := 86) (by kernel_rfl)
  obtain ⟨x2, rfl⟩ := list_of (C := Effect.cells) fun x hx => sh_86 (hsx2 x hx)
  exact ⟨⟨x0, x1, x2⟩, by kernel_rfl⟩
theorem sh_46 {rs : List RV} (h : Sh Try.prog 46 rs) : ∃ a : Cluster, rs = a.cells := by
 obtain ⟨parts, rfl, hl, hp⟩ := h.struct_inv (ts := [9, 42, 43, 44]) (by kernel_rfl)
 match parts, hl, hp with
 | [p0, p1, p2, p3], _, hp =>
  obtain ⟨x0, rfl, _⟩ := (hp 0 9 _ rfl rfl).str_inv (by kernel_rfl)
  obtain ⟨x1s, rfl, hlx1, hsx1⟩ := (hp 1 42 _ rfl rfl).slice_inv (e := 48) (by kernel_rfl)
  obtain ⟨x1, rfl⟩ := list_of (C := Attr.cells) fun x hx => sh_48 (hsx1 x hx)
  obtain ⟨x2s, rfl, hlx2, hsx2⟩ := (hp 2 43 _ rfl rfl).slice_inv (e := 89) (by kernel_rfl)
  obtain ⟨x2, rfl⟩ := list_of (C := Command.cells) fun x hx => sh_89 (hsx2 x hx)
  obtain ⟨x3s, rfl, hlx3, hsx3⟩ := (hp 3 44 _ rfl rfl).slice_inv (e := 9) (by kernel_rfl)
  obtain ⟨x3, rfl⟩ := list_of (C := strC) fun x hx => sh_9 (hsx3 x hx)
  exact ⟨⟨x0, x1, x2, x3⟩, by kernel_rfl⟩
theorem sh_60 {rs : List RV} (h : Sh Try.prog 60 rs) : ∃ a : Dev, rs = a.cells := by
 obtain ⟨parts, rfl, hl, hp⟩ := h.struct_inv (ts := [3, 58, 3, 4, 3, 9, 44]) (by kernel_rfl)
 match parts, hl, hp with
 | [p0, p1, p2, p3, p4, p5, p6], _, hp =>
  obtain ⟨x0, rfl, hwx0⟩ := (hp 0 3 _ rfl rfl).int_inv (k := .i64) (by kernel_rfl)
  obtain ⟨x1, rfl, hwx1⟩ := (hp 1 58 _ rfl rfl).int_inv (k := .u64) (by kernel_rfl)
  obtain ⟨x2, rfl, hwx2⟩ := (hp 2 3 _ rfl rfl).int_inv (k := .i64) (by kernel_rfl)
  obtain ⟨x3, rfl⟩ := (hp 3 4 _ rfl rfl).bool_inv (by kernel_rfl)
  obtain ⟨x4, rfl, hwx4⟩ := (hp 4 3 _ rfl rfl).int_inv (k := .i64) (by kernel_rfl)
  obtain ⟨x5, rfl, _⟩ := (hp 5 9 _ rfl rfl).str_inv (by kernel_rfl)
  obtain ⟨x6s, rfl, hlx6, hsx6⟩ := (hp 6 44 _ rfl rfl).slice_inv (e := 9) (by kernel_rfl)
  obtain ⟨x6, rfl⟩ := list_of (C := strC) fun x hx => sh_9 (hsx6 x hx)
  exact ⟨⟨x0, x1, x2, x3, x4, x5, x6⟩, by kernel_rfl⟩
theorem sh_40 {rs : List RV} (h : Sh Try.prog 40 rs) : ∃ a : Home, rs = a.cells := by
 obtain ⟨parts, rfl, hl, hp⟩ := h.struct_inv (ts := [37, 38]) (by kernel_rfl)
 match parts, hl, hp with
 | [p0, p1], _, hp =>
  obtain ⟨x0s, rfl, hlx0, hsx0⟩ := (hp 0 37 _ rfl rfl).slice_inv (e := 46) (by kernel_rfl)
  obtain ⟨x0, rfl⟩ := list_of (C := Cluster.cells) fun x hx => sh_46 (hsx0 x hx)
  obtain ⟨x1s, rfl, hlx1, hsx1⟩ := (hp 1 38 _ rfl rfl).slice_inv (e := 60) (by kernel_rfl)
  obtain ⟨x1, rfl⟩ := list_of (C := Dev.cells) fun x hx => sh_60 (hsx1 x hx)
  exact ⟨⟨x0, x1⟩, by kernel_rfl⟩
theorem own : ownKnob Try.prog.godebug = none := by kernel_rfl
theorem kids : Kids Try.prog (· < Try.prog.types.size) := kids_rows (by kernel_rfl) (by kernel_rfl)
theorem full : ∀ t e, t < Try.prog.types.size → Try.prog.underlying t = some (.slice e) → 0 < Try.prog.cellsOf e := slices_full_of Try.prog (by kernel_rfl)
theorem glob_met {W : World} : GRel W (allRo W) G_ := fun _ _ h => by cases h
end Go.Proofs.Ytnnlaccdendkpaa
