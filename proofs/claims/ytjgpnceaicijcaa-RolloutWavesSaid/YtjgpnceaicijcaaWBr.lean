/- From the arguments of the statements to structures. Conditions: none. -/
import Derived.Test.YtjgpnceaicijcaaWA1
import Derived.Test.YtjgpnceaicijcaaWMy
import Derived.Test.YtjgpnceaicijcaaRows
namespace Go.Proofs.Ytjgpnceaicijcaa
open Go Go.Av Go.Hh Go.Proofs Go.ChangeShapes Go.WideShapes Go.ChangeAt Go.WideMaps Go.WideElems Go.RowKit
set_option maxRecDepth 100000
set_option maxHeartbeats 4000000
theorem sh_9 {rs : List RV} (h : Sh Try.prog 9 rs) : ∃ a : ByteArray, rs = strC a := by
  obtain ⟨a, rfl, _⟩ := h.str_inv (by kernel_rfl)
  exact ⟨_, rfl⟩
theorem sh_84 {rs : List RV} (h : Sh Try.prog 84 rs) : ∃ a : Attr, rs = a.cells := by
  obtain ⟨parts, rfl, hl, hp⟩ := h.struct_inv (ts := [9, 3, 3, 3, 47, 4, 4]) (by kernel_rfl)
  match parts, hl, hp with
  | [p0, p1, p2, p3, p4, p5, p6], _, hp =>
    obtain ⟨x0, rfl, _⟩ := (hp 0 9 _ rfl rfl).str_inv (by kernel_rfl)
    obtain ⟨x1, rfl, hwx1⟩ := (hp 1 3 _ rfl rfl).int_inv (k := .i64) (by kernel_rfl)
    obtain ⟨x2, rfl, hwx2⟩ := (hp 2 3 _ rfl rfl).int_inv (k := .i64) (by kernel_rfl)
    obtain ⟨x3, rfl, hwx3⟩ := (hp 3 3 _ rfl rfl).int_inv (k := .i64) (by kernel_rfl)
    obtain ⟨x4s, rfl, hlx4, hsx4⟩ := (hp 4 47 _ rfl rfl).slice_inv (e := 9) (by kernel_rfl)
    obtain ⟨x4, rfl⟩ := list_of (C := strC) fun x hx => sh_9 (hsx4 x hx)
    obtain ⟨x5, rfl⟩ := (hp 5 4 _ rfl rfl).bool_inv (by kernel_rfl)
    obtain ⟨x6, rfl⟩ := (hp 6 4 _ rfl rfl).bool_inv (by kernel_rfl)
    exact ⟨⟨x0, x1, x2, x3, x4, x5, x6⟩, by kernel_rfl⟩
theorem sh_81 {rs : List RV} (h : Sh Try.prog 81 rs) : ∃ a : Effect, rs = a.cells := by
  obtain ⟨parts, rfl, hl, hp⟩ := h.struct_inv (ts := [3, 9, 3]) (by kernel_rfl)
  match parts, hl, hp with
  | [p0, p1, p2], _, hp =>
    obtain ⟨x0, rfl, hwx0⟩ := (hp 0 3 _ rfl rfl).int_inv (k := .i64) (by kernel_rfl)
    obtain ⟨x1, rfl, _⟩ := (hp 1 9 _ rfl rfl).str_inv (by kernel_rfl)
    obtain ⟨x2, rfl, hwx2⟩ := (hp 2 3 _ rfl rfl).int_inv (k := .i64) (by kernel_rfl)
    exact ⟨⟨x0, x1, x2⟩, by kernel_rfl⟩
theorem sh_86 {rs : List RV} (h : Sh Try.prog 86 rs) : ∃ a : Command, rs = a.cells := by
  obtain ⟨parts, rfl, hl, hp⟩ := h.struct_inv (ts := [9, 84, 82]) (by kernel_rfl)
  match parts, hl, hp with
  | [p0, p1, p2], _, hp =>
    obtain ⟨x0, rfl, _⟩ := (hp 0 9 _ rfl rfl).str_inv (by kernel_rfl)
    obtain ⟨x1, rfl⟩ := sh_84 (hp 1 84 _ rfl rfl)
    obtain ⟨x2s, rfl, hlx2, hsx2⟩ := (hp 2 82 _ rfl rfl).slice_inv (e := 81) (by kernel_rfl)
    obtain ⟨x2, rfl⟩ := list_of (C := Effect.cells) fun x hx => sh_81 (hsx2 x hx)
    exact ⟨⟨x0, x1, x2⟩, by kernel_rfl⟩
theorem sh_66 {rs : List RV} (h : Sh Try.prog 66 rs) : ∃ a : Cluster, rs = a.cells := by
  obtain ⟨parts, rfl, hl, hp⟩ := h.struct_inv (ts := [9, 63, 64, 47]) (by kernel_rfl)
  match parts, hl, hp with
  | [p0, p1, p2, p3], _, hp =>
    obtain ⟨x0, rfl, _⟩ := (hp 0 9 _ rfl rfl).str_inv (by kernel_rfl)
    obtain ⟨x1s, rfl, hlx1, hsx1⟩ := (hp 1 63 _ rfl rfl).slice_inv (e := 84) (by kernel_rfl)
    obtain ⟨x1, rfl⟩ := list_of (C := Attr.cells) fun x hx => sh_84 (hsx1 x hx)
    obtain ⟨x2s, rfl, hlx2, hsx2⟩ := (hp 2 64 _ rfl rfl).slice_inv (e := 86) (by kernel_rfl)
    obtain ⟨x2, rfl⟩ := list_of (C := Command.cells) fun x hx => sh_86 (hsx2 x hx)
    obtain ⟨x3s, rfl, hlx3, hsx3⟩ := (hp 3 47 _ rfl rfl).slice_inv (e := 9) (by kernel_rfl)
    obtain ⟨x3, rfl⟩ := list_of (C := strC) fun x hx => sh_9 (hsx3 x hx)
    exact ⟨⟨x0, x1, x2, x3⟩, by kernel_rfl⟩
theorem sh_49 {rs : List RV} (h : Sh Try.prog 49 rs) : ∃ a : Dev, rs = a.cells := by
  obtain ⟨parts, rfl, hl, hp⟩ := h.struct_inv (ts := [3, 46, 3, 4, 3, 9, 47]) (by kernel_rfl)
  match parts, hl, hp with
  | [p0, p1, p2, p3, p4, p5, p6], _, hp =>
    obtain ⟨x0, rfl, hwx0⟩ := (hp 0 3 _ rfl rfl).int_inv (k := .i64) (by kernel_rfl)
    obtain ⟨x1, rfl, hwx1⟩ := (hp 1 46 _ rfl rfl).int_inv (k := .u64) (by kernel_rfl)
    obtain ⟨x2, rfl, hwx2⟩ := (hp 2 3 _ rfl rfl).int_inv (k := .i64) (by kernel_rfl)
    obtain ⟨x3, rfl⟩ := (hp 3 4 _ rfl rfl).bool_inv (by kernel_rfl)
    obtain ⟨x4, rfl, hwx4⟩ := (hp 4 3 _ rfl rfl).int_inv (k := .i64) (by kernel_rfl)
    obtain ⟨x5, rfl, _⟩ := (hp 5 9 _ rfl rfl).str_inv (by kernel_rfl)
    obtain ⟨x6s, rfl, hlx6, hsx6⟩ := (hp 6 47 _ rfl rfl).slice_inv (e := 9) (by kernel_rfl)
    obtain ⟨x6, rfl⟩ := list_of (C := strC) fun x hx => sh_9 (hsx6 x hx)
    exact ⟨⟨x0, x1, x2, x3, x4, x5, x6⟩, by kernel_rfl⟩
theorem sh_25 {rs : List RV} (h : Sh Try.prog 25 rs) : ∃ a : Home, rs = a.cells := by
  obtain ⟨parts, rfl, hl, hp⟩ := h.struct_inv (ts := [22, 23]) (by kernel_rfl)
  match parts, hl, hp with
  | [p0, p1], _, hp =>
    obtain ⟨x0s, rfl, hlx0, hsx0⟩ := (hp 0 22 _ rfl rfl).slice_inv (e := 66) (by kernel_rfl)
    obtain ⟨x0, rfl⟩ := list_of (C := Cluster.cells) fun x hx => sh_66 (hsx0 x hx)
    obtain ⟨x1s, rfl, hlx1, hsx1⟩ := (hp 1 23 _ rfl rfl).slice_inv (e := 49) (by kernel_rfl)
    obtain ⟨x1, rfl⟩ := list_of (C := Dev.cells) fun x hx => sh_49 (hsx1 x hx)
    exact ⟨⟨x0, x1⟩, by kernel_rfl⟩
theorem sh_3 {rs : List RV} (h : Sh Try.prog 3 rs) : ∃ a : Int, rs = intC a := by
  obtain ⟨a, rfl, hwa⟩ := h.int_inv (k := .i64) (by kernel_rfl)
  exact ⟨_, rfl⟩
theorem sh_28 {rs : List RV} (h : Sh Try.prog 28 rs) : ∃ a : Firmware, rs = a.cells := by
  obtain ⟨parts, rfl, hl, hp⟩ := h.struct_inv (ts := [3, 3, 26]) (by kernel_rfl)
  match parts, hl, hp with
  | [p0, p1, p2], _, hp =>
    obtain ⟨x0, rfl, hwx0⟩ := (hp 0 3 _ rfl rfl).int_inv (k := .i64) (by kernel_rfl)
    obtain ⟨x1, rfl, hwx1⟩ := (hp 1 3 _ rfl rfl).int_inv (k := .i64) (by kernel_rfl)
    obtain ⟨x2s, rfl, hlx2, hsx2⟩ := (hp 2 26 _ rfl rfl).slice_inv (e := 3) (by kernel_rfl)
    obtain ⟨x2, rfl⟩ := list_of (C := intC) fun x hx => sh_3 (hsx2 x hx)
    exact ⟨⟨x0, x1, x2⟩, by kernel_rfl⟩
theorem sh_68 {rs : List RV} (h : Sh Try.prog 68 rs) : ∃ a : Pair, rs = a.cells := by
  obtain ⟨parts, rfl, hl, hp⟩ := h.array_inv (e := 3) (n := 2) (by kernel_rfl)
  match parts, hl, hp with
  | [p0, p1], _, hp =>
    obtain ⟨x0, rfl, hwx0⟩ := (hp p0 (by simp)).int_inv (k := .i64) (by kernel_rfl)
    obtain ⟨x1, rfl, hwx1⟩ := (hp p1 (by simp)).int_inv (k := .i64) (by kernel_rfl)
    exact ⟨⟨x0, x1⟩, by kernel_rfl⟩
theorem sh_4 {rs : List RV} (h : Sh Try.prog 4 rs) : ∃ a : Bool, rs = boolC a := by
  obtain ⟨a, rfl⟩ := h.bool_inv (by kernel_rfl)
  exact ⟨_, rfl⟩
theorem sh_57 {rs : List RV} (h : Sh Try.prog 57 rs) : ∃ a : Op51, rs = a.cells := by
  obtain ⟨parts, rfl, hl, hp⟩ := h.struct_inv (ts := [3, 3, 3, 4, 43]) (by kernel_rfl)
  match parts, hl, hp with
  | [p0, p1, p2, p3, p4], _, hp =>
    obtain ⟨x0, rfl, hwx0⟩ := (hp 0 3 _ rfl rfl).int_inv (k := .i64) (by kernel_rfl)
    obtain ⟨x1, rfl, hwx1⟩ := (hp 1 3 _ rfl rfl).int_inv (k := .i64) (by kernel_rfl)
    obtain ⟨x2, rfl, hwx2⟩ := (hp 2 3 _ rfl rfl).int_inv (k := .i64) (by kernel_rfl)
    obtain ⟨x3, rfl⟩ := (hp 3 4 _ rfl rfl).bool_inv (by kernel_rfl)
    obtain ⟨x4s, rfl, hlx4, hsx4⟩ := (hp 4 43 _ rfl rfl).slice_inv (e := 4) (by kernel_rfl)
    obtain ⟨x4, rfl⟩ := list_of (C := boolC) fun x hx => sh_4 (hsx4 x hx)
    exact ⟨⟨x0, x1, x2, x3, x4⟩, by kernel_rfl⟩
theorem own : ownKnob Try.prog.godebug = none := by kernel_rfl
theorem kids : Kids Try.prog (· < Try.prog.types.size) := kids_rows (by kernel_rfl) (by kernel_rfl)
theorem full : ∀ t e, t < Try.prog.types.size → Try.prog.underlying t = some (.slice e) → 0 < Try.prog.cellsOf e := slices_full_of Try.prog (by kernel_rfl)
theorem glob_met {W : World} : GRel W (allRo W) G_ := fun _ _ h => by cases h
end Go.Proofs.Ytjgpnceaicijcaa
