/- From the arguments of the statements to structures. Conditions: none. -/
import Derived.Test.YtmjimhkbehoomaaTA1
import Derived.Test.YtmjimhkbehoomaaTMy
import Derived.Test.YtmjimhkbehoomaaRows
namespace Go.Proofs.Ytmjimhkbehoomaa
open Go Go.Av Go.Hh Go.Proofs Go.ChangeShapes Go.WideShapes Go.ChangeAt Go.WideMaps Go.WideElems Go.RowKit
set_option maxRecDepth 100000
set_option maxHeartbeats 4000000
theorem sh_3 {rs : List RV} (h : Sh Try.prog 3 rs) : ∃ a : Int, rs = intC a := by
  obtain ⟨a, rfl, hwa⟩ := h.int_inv (k := .i64) (by kernel_rfl)
  exact ⟨_, rfl⟩
theorem sh_64 {rs : List RV} (h : Sh Try.prog 64 rs) : ∃ a : FieldV, rs = a.cells := by
  obtain ⟨parts, rfl, hl, hp⟩ := h.struct_inv (ts := [9, 9, 3, 3, 3, 62]) (by kernel_rfl)
  match parts, hl, hp with
  | [p0, p1, p2, p3, p4, p5], _, hp =>
    obtain ⟨x0, rfl, _⟩ := (hp 0 9 _ rfl rfl).str_inv (by kernel_rfl)
    obtain ⟨x1, rfl, _⟩ := (hp 1 9 _ rfl rfl).str_inv (by kernel_rfl)
    obtain ⟨x2, rfl, hwx2⟩ := (hp 2 3 _ rfl rfl).int_inv (k := .i64) (by kernel_rfl)
    obtain ⟨x3, rfl, hwx3⟩ := (hp 3 3 _ rfl rfl).int_inv (k := .i64) (by kernel_rfl)
    obtain ⟨x4, rfl, hwx4⟩ := (hp 4 3 _ rfl rfl).int_inv (k := .i64) (by kernel_rfl)
    obtain ⟨x5s, rfl, hlx5, hsx5⟩ := (hp 5 62 _ rfl rfl).slice_inv (e := 3) (by kernel_rfl)
    obtain ⟨x5, rfl⟩ := list_of (C := intC) fun x hx => sh_3 (hsx5 x hx)
    exact ⟨⟨x0, x1, x2, x3, x4, x5⟩, by kernel_rfl⟩
theorem sh_24 {rs : List RV} (h : Sh Try.prog 24 rs) : ∃ a : Codec, rs = a.cells := by
  obtain ⟨parts, rfl, hl, hp⟩ := h.struct_inv (ts := [3, 22]) (by kernel_rfl)
  match parts, hl, hp with
  | [p0, p1], _, hp =>
    obtain ⟨x0, rfl, hwx0⟩ := (hp 0 3 _ rfl rfl).int_inv (k := .i64) (by kernel_rfl)
    obtain ⟨x1s, rfl, hlx1, hsx1⟩ := (hp 1 22 _ rfl rfl).slice_inv (e := 64) (by kernel_rfl)
    obtain ⟨x1, rfl⟩ := list_of (C := FieldV.cells) fun x hx => sh_64 (hsx1 x hx)
    exact ⟨⟨x0, x1⟩, by kernel_rfl⟩
theorem sh_9 {rs : List RV} (h : Sh Try.prog 9 rs) : ∃ a : ByteArray, rs = strC a := by
  obtain ⟨a, rfl, _⟩ := h.str_inv (by kernel_rfl)
  exact ⟨_, rfl⟩
theorem sh_51 {rs : List RV} (h : Sh Try.prog 51 rs) : ∃ a : Attr, rs = a.cells := by
  obtain ⟨parts, rfl, hl, hp⟩ := h.struct_inv (ts := [9, 3, 3, 3, 49, 4, 4]) (by kernel_rfl)
  match parts, hl, hp with
  | [p0, p1, p2, p3, p4, p5, p6], _, hp =>
    obtain ⟨x0, rfl, _⟩ := (hp 0 9 _ rfl rfl).str_inv (by kernel_rfl)
    obtain ⟨x1, rfl, hwx1⟩ := (hp 1 3 _ rfl rfl).int_inv (k := .i64) (by kernel_rfl)
    obtain ⟨x2, rfl, hwx2⟩ := (hp 2 3 _ rfl rfl).int_inv (k := .i64) (by kernel_rfl)
    obtain ⟨x3, rfl, hwx3⟩ := (hp 3 3 _ rfl rfl).int_inv (k := .i64) (by kernel_rfl)
    obtain ⟨x4s, rfl, hlx4, hsx4⟩ := (hp 4 49 _ rfl rfl).slice_inv (e := 9) (by kernel_rfl)
    obtain ⟨x4, rfl⟩ := list_of (C := strC) fun x hx => sh_9 (hsx4 x hx)
    obtain ⟨x5, rfl⟩ := (hp 5 4 _ rfl rfl).bool_inv (by kernel_rfl)
    obtain ⟨x6, rfl⟩ := (hp 6 4 _ rfl rfl).bool_inv (by kernel_rfl)
    exact ⟨⟨x0, x1, x2, x3, x4, x5, x6⟩, by kernel_rfl⟩
theorem sh_123 {rs : List RV} (h : Sh Try.prog 123 rs) : ∃ a : Effect, rs = a.cells := by
  obtain ⟨parts, rfl, hl, hp⟩ := h.struct_inv (ts := [3, 9, 3]) (by kernel_rfl)
  match parts, hl, hp with
  | [p0, p1, p2], _, hp =>
    obtain ⟨x0, rfl, hwx0⟩ := (hp 0 3 _ rfl rfl).int_inv (k := .i64) (by kernel_rfl)
    obtain ⟨x1, rfl, _⟩ := (hp 1 9 _ rfl rfl).str_inv (by kernel_rfl)
    obtain ⟨x2, rfl, hwx2⟩ := (hp 2 3 _ rfl rfl).int_inv (k := .i64) (by kernel_rfl)
    exact ⟨⟨x0, x1, x2⟩, by kernel_rfl⟩
theorem sh_120 {rs : List RV} (h : Sh Try.prog 120 rs) : ∃ a : Command, rs = a.cells := by
  obtain ⟨parts, rfl, hl, hp⟩ := h.struct_inv (ts := [9, 51, 118]) (by kernel_rfl)
  match parts, hl, hp with
  | [p0, p1, p2], _, hp =>
    obtain ⟨x0, rfl, _⟩ := (hp 0 9 _ rfl rfl).str_inv (by kernel_rfl)
    obtain ⟨x1, rfl⟩ := sh_51 (hp 1 51 _ rfl rfl)
    obtain ⟨x2s, rfl, hlx2, hsx2⟩ := (hp 2 118 _ rfl rfl).slice_inv (e := 123) (by kernel_rfl)
    obtain ⟨x2, rfl⟩ := list_of (C := Effect.cells) fun x hx => sh_123 (hsx2 x hx)
    exact ⟨⟨x0, x1, x2⟩, by kernel_rfl⟩
theorem sh_58 {rs : List RV} (h : Sh Try.prog 58 rs) : ∃ a : Cluster, rs = a.cells := by
  obtain ⟨parts, rfl, hl, hp⟩ := h.struct_inv (ts := [9, 55, 56, 49]) (by kernel_rfl)
  match parts, hl, hp with
  | [p0, p1, p2, p3], _, hp =>
    obtain ⟨x0, rfl, _⟩ := (hp 0 9 _ rfl rfl).str_inv (by kernel_rfl)
    obtain ⟨x1s, rfl, hlx1, hsx1⟩ := (hp 1 55 _ rfl rfl).slice_inv (e := 51) (by kernel_rfl)
    obtain ⟨x1, rfl⟩ := list_of (C := Attr.cells) fun x hx => sh_51 (hsx1 x hx)
    obtain ⟨x2s, rfl, hlx2, hsx2⟩ := (hp 2 56 _ rfl rfl).slice_inv (e := 120) (by kernel_rfl)
    obtain ⟨x2, rfl⟩ := list_of (C := Command.cells) fun x hx => sh_120 (hsx2 x hx)
    obtain ⟨x3s, rfl, hlx3, hsx3⟩ := (hp 3 49 _ rfl rfl).slice_inv (e := 9) (by kernel_rfl)
    obtain ⟨x3, rfl⟩ := list_of (C := strC) fun x hx => sh_9 (hsx3 x hx)
    exact ⟨⟨x0, x1, x2, x3⟩, by kernel_rfl⟩
theorem sh_61 {rs : List RV} (h : Sh Try.prog 61 rs) : ∃ a : Dev, rs = a.cells := by
  obtain ⟨parts, rfl, hl, hp⟩ := h.struct_inv (ts := [3, 59, 3, 4, 3, 9, 49]) (by kernel_rfl)
  match parts, hl, hp with
  | [p0, p1, p2, p3, p4, p5, p6], _, hp =>
    obtain ⟨x0, rfl, hwx0⟩ := (hp 0 3 _ rfl rfl).int_inv (k := .i64) (by kernel_rfl)
    obtain ⟨x1, rfl, hwx1⟩ := (hp 1 59 _ rfl rfl).int_inv (k := .u64) (by kernel_rfl)
    obtain ⟨x2, rfl, hwx2⟩ := (hp 2 3 _ rfl rfl).int_inv (k := .i64) (by kernel_rfl)
    obtain ⟨x3, rfl⟩ := (hp 3 4 _ rfl rfl).bool_inv (by kernel_rfl)
    obtain ⟨x4, rfl, hwx4⟩ := (hp 4 3 _ rfl rfl).int_inv (k := .i64) (by kernel_rfl)
    obtain ⟨x5, rfl, _⟩ := (hp 5 9 _ rfl rfl).str_inv (by kernel_rfl)
    obtain ⟨x6s, rfl, hlx6, hsx6⟩ := (hp 6 49 _ rfl rfl).slice_inv (e := 9) (by kernel_rfl)
    obtain ⟨x6, rfl⟩ := list_of (C := strC) fun x hx => sh_9 (hsx6 x hx)
    exact ⟨⟨x0, x1, x2, x3, x4, x5, x6⟩, by kernel_rfl⟩
theorem sh_28 {rs : List RV} (h : Sh Try.prog 28 rs) : ∃ a : Home, rs = a.cells := by
  obtain ⟨parts, rfl, hl, hp⟩ := h.struct_inv (ts := [25, 26]) (by kernel_rfl)
  match parts, hl, hp with
  | [p0, p1], _, hp =>
    obtain ⟨x0s, rfl, hlx0, hsx0⟩ := (hp 0 25 _ rfl rfl).slice_inv (e := 58) (by kernel_rfl)
    obtain ⟨x0, rfl⟩ := list_of (C := Cluster.cells) fun x hx => sh_58 (hsx0 x hx)
    obtain ⟨x1s, rfl, hlx1, hsx1⟩ := (hp 1 26 _ rfl rfl).slice_inv (e := 61) (by kernel_rfl)
    obtain ⟨x1, rfl⟩ := list_of (C := Dev.cells) fun x hx => sh_61 (hsx1 x hx)
    exact ⟨⟨x0, x1⟩, by kernel_rfl⟩
theorem sh_44 {rs : List RV} (h : Sh Try.prog 44 rs) : ∃ a : KeyV, rs = a.cells := by
  obtain ⟨parts, rfl, hl, hp⟩ := h.struct_inv (ts := [3, 9, 9]) (by kernel_rfl)
  match parts, hl, hp with
  | [p0, p1, p2], _, hp =>
    obtain ⟨x0, rfl, hwx0⟩ := (hp 0 3 _ rfl rfl).int_inv (k := .i64) (by kernel_rfl)
    obtain ⟨x1, rfl, _⟩ := (hp 1 9 _ rfl rfl).str_inv (by kernel_rfl)
    obtain ⟨x2, rfl, _⟩ := (hp 2 9 _ rfl rfl).str_inv (by kernel_rfl)
    exact ⟨⟨x0, x1, x2⟩, by kernel_rfl⟩
theorem sh_46 {rs : List RV} (h : Sh Try.prog 46 rs) : ∃ a : Val, rs = a.cells := by
  obtain ⟨parts, rfl, hl, hp⟩ := h.struct_inv (ts := [3, 3, 9]) (by kernel_rfl)
  match parts, hl, hp with
  | [p0, p1, p2], _, hp =>
    obtain ⟨x0, rfl, hwx0⟩ := (hp 0 3 _ rfl rfl).int_inv (k := .i64) (by kernel_rfl)
    obtain ⟨x1, rfl, hwx1⟩ := (hp 1 3 _ rfl rfl).int_inv (k := .i64) (by kernel_rfl)
    obtain ⟨x2, rfl, _⟩ := (hp 2 9 _ rfl rfl).str_inv (by kernel_rfl)
    exact ⟨⟨x0, x1, x2⟩, by kernel_rfl⟩
theorem sh_48 {rs : List RV} (h : Sh Try.prog 48 rs) : ∃ a : ItemV, rs = a.cells := by
  obtain ⟨parts, rfl, hl, hp⟩ := h.struct_inv (ts := [44, 46, 3]) (by kernel_rfl)
  match parts, hl, hp with
  | [p0, p1, p2], _, hp =>
    obtain ⟨x0, rfl⟩ := sh_44 (hp 0 44 _ rfl rfl)
    obtain ⟨x1, rfl⟩ := sh_46 (hp 1 46 _ rfl rfl)
    obtain ⟨x2, rfl, hwx2⟩ := (hp 2 3 _ rfl rfl).int_inv (k := .i64) (by kernel_rfl)
    exact ⟨⟨x0, x1, x2⟩, by kernel_rfl⟩
theorem own : ownKnob Try.prog.godebug = none := by kernel_rfl
theorem kids : Kids Try.prog (· < Try.prog.types.size) := kids_rows (by kernel_rfl) (by kernel_rfl)
theorem full : ∀ t e, t < Try.prog.types.size → Try.prog.underlying t = some (.slice e) → 0 < Try.prog.cellsOf e := slices_full_of Try.prog (by kernel_rfl)
theorem glob_met {W : World} : GRel W (allRo W) G_ := fun _ _ h => by cases h
end Go.Proofs.Ytmjimhkbehoomaa
