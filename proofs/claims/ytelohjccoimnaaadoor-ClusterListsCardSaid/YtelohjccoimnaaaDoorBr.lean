/- From the arguments of the statements to structures. Conditions: none. -/
import Derived.Test.YtelohjccoimnaaaDoorA10
import Derived.Test.YtelohjccoimnaaaDoorMy
import Derived.Test.YtelohjccoimnaaaDoorRows
namespace Go.Proofs.YtelohjccoimnaaaDoor
open Go Go.Av Go.Hh Go.Proofs Go.ChangeShapes Go.WideShapes Go.ChangeAt Go.WideMaps Go.WideElems Go.RowKit
set_option maxRecDepth 100000
set_option maxHeartbeats 4000000
theorem sh_9 {rs : List RV} (h : Sh Tryd.prog 9 rs) : ∃ a : ByteArray, rs = strC a := by
  obtain ⟨a, rfl, _⟩ := h.str_inv (by kernel_rfl)
  exact ⟨_, rfl⟩
theorem sh_32 {rs : List RV} (h : Sh Tryd.prog 32 rs) : ∃ a : Attr, rs = a.cells := by
  obtain ⟨parts, rfl, hl, hp⟩ := h.struct_inv (ts := [9, 3, 3, 3, 24, 4, 4]) (by kernel_rfl)
  match parts, hl, hp with
  | [p0, p1, p2, p3, p4, p5, p6], _, hp =>
    obtain ⟨x0, rfl, _⟩ := (hp 0 9 _ rfl rfl).str_inv (by kernel_rfl)
    obtain ⟨x1, rfl, hwx1⟩ := (hp 1 3 _ rfl rfl).int_inv (k := .i64) (by kernel_rfl)
    obtain ⟨x2, rfl, hwx2⟩ := (hp 2 3 _ rfl rfl).int_inv (k := .i64) (by kernel_rfl)
    obtain ⟨x3, rfl, hwx3⟩ := (hp 3 3 _ rfl rfl).int_inv (k := .i64) (by kernel_rfl)
    obtain ⟨x4s, rfl, hlx4, hsx4⟩ := (hp 4 24 _ rfl rfl).slice_inv (e := 9) (by kernel_rfl)
    obtain ⟨x4, rfl⟩ := list_of (C := strC) fun x hx => sh_9 (hsx4 x hx)
    obtain ⟨x5, rfl⟩ := (hp 5 4 _ rfl rfl).bool_inv (by kernel_rfl)
    obtain ⟨x6, rfl⟩ := (hp 6 4 _ rfl rfl).bool_inv (by kernel_rfl)
    exact ⟨⟨x0, x1, x2, x3, x4, x5, x6⟩, by kernel_rfl⟩
theorem sh_52 {rs : List RV} (h : Sh Tryd.prog 52 rs) : ∃ a : Effect, rs = a.cells := by
  obtain ⟨parts, rfl, hl, hp⟩ := h.struct_inv (ts := [3, 9, 3]) (by kernel_rfl)
  match parts, hl, hp with
  | [p0, p1, p2], _, hp =>
    obtain ⟨x0, rfl, hwx0⟩ := (hp 0 3 _ rfl rfl).int_inv (k := .i64) (by kernel_rfl)
    obtain ⟨x1, rfl, _⟩ := (hp 1 9 _ rfl rfl).str_inv (by kernel_rfl)
    obtain ⟨x2, rfl, hwx2⟩ := (hp 2 3 _ rfl rfl).int_inv (k := .i64) (by kernel_rfl)
    exact ⟨⟨x0, x1, x2⟩, by kernel_rfl⟩
theorem sh_38 {rs : List RV} (h : Sh Tryd.prog 38 rs) : ∃ a : Command, rs = a.cells := by
  obtain ⟨parts, rfl, hl, hp⟩ := h.struct_inv (ts := [9, 32, 36]) (by kernel_rfl)
  match parts, hl, hp with
  | [p0, p1, p2], _, hp =>
    obtain ⟨x0, rfl, _⟩ := (hp 0 9 _ rfl rfl).str_inv (by kernel_rfl)
    obtain ⟨x1, rfl⟩ := sh_32 (hp 1 32 _ rfl rfl)
    obtain ⟨x2s, rfl, hlx2, hsx2⟩ := (hp 2 36 _ rfl rfl).slice_inv (e := 52) (by kernel_rfl)
    obtain ⟨x2, rfl⟩ := list_of (C := Effect.cells) fun x hx => sh_52 (hsx2 x hx)
    exact ⟨⟨x0, x1, x2⟩, by kernel_rfl⟩
theorem sh_26 {rs : List RV} (h : Sh Tryd.prog 26 rs) : ∃ a : Cluster, rs = a.cells := by
  obtain ⟨parts, rfl, hl, hp⟩ := h.struct_inv (ts := [9, 22, 23, 24]) (by kernel_rfl)
  match parts, hl, hp with
  | [p0, p1, p2, p3], _, hp =>
    obtain ⟨x0, rfl, _⟩ := (hp 0 9 _ rfl rfl).str_inv (by kernel_rfl)
    obtain ⟨x1s, rfl, hlx1, hsx1⟩ := (hp 1 22 _ rfl rfl).slice_inv (e := 32) (by kernel_rfl)
    obtain ⟨x1, rfl⟩ := list_of (C := Attr.cells) fun x hx => sh_32 (hsx1 x hx)
    obtain ⟨x2s, rfl, hlx2, hsx2⟩ := (hp 2 23 _ rfl rfl).slice_inv (e := 38) (by kernel_rfl)
    obtain ⟨x2, rfl⟩ := list_of (C := Command.cells) fun x hx => sh_38 (hsx2 x hx)
    obtain ⟨x3s, rfl, hlx3, hsx3⟩ := (hp 3 24 _ rfl rfl).slice_inv (e := 9) (by kernel_rfl)
    obtain ⟨x3, rfl⟩ := list_of (C := strC) fun x hx => sh_9 (hsx3 x hx)
    exact ⟨⟨x0, x1, x2, x3⟩, by kernel_rfl⟩
theorem sh_44 {rs : List RV} (h : Sh Tryd.prog 44 rs) : ∃ a : Val, rs = a.cells := by
  obtain ⟨parts, rfl, hl, hp⟩ := h.struct_inv (ts := [3, 3, 9]) (by kernel_rfl)
  match parts, hl, hp with
  | [p0, p1, p2], _, hp =>
    obtain ⟨x0, rfl, hwx0⟩ := (hp 0 3 _ rfl rfl).int_inv (k := .i64) (by kernel_rfl)
    obtain ⟨x1, rfl, hwx1⟩ := (hp 1 3 _ rfl rfl).int_inv (k := .i64) (by kernel_rfl)
    obtain ⟨x2, rfl, _⟩ := (hp 2 9 _ rfl rfl).str_inv (by kernel_rfl)
    exact ⟨⟨x0, x1, x2⟩, by kernel_rfl⟩
theorem own : ownKnob Tryd.prog.godebug = none := by kernel_rfl
theorem kids : Kids Tryd.prog (· < Tryd.prog.types.size) := kids_rows (by kernel_rfl) (by kernel_rfl)
theorem full : ∀ t e, t < Tryd.prog.types.size → Tryd.prog.underlying t = some (.slice e) → 0 < Tryd.prog.cellsOf e := slices_full_of Tryd.prog (by kernel_rfl)
def laidL : List (String × DataW Unit) := [("homehub/cluster.standard", Rows.laid_homehub_cluster_standard)]
theorem door_met (os : Os) (args : Array Value) : laidMetH Tryd.prog laidL ((World.doorLaid Tryd.prog 400 os).forCall (fun _ _ => 0) ⟨#[], args, []⟩).memory :=
  laidMetH_of_parts3 (fuel := 8) (laidMet_of_run' 8 (by kernel_rfl) (by kernel_rfl)) (by kernel_rfl) (by kernel_rfl)
theorem gStd : Tryd.prog.globalNamed "homehub/cluster.standard" = some 0 := by kernel_rfl
theorem tStd : (Tryd.prog.globals[0]?).map (·.type) = some 72 := by kernel_rfl
def stdNames : List ByteArray := [⟨#[111, 110, 111, 102, 102]⟩, ⟨#[108, 101, 118, 101, 108]⟩, ⟨#[108, 111, 99, 107]⟩, ⟨#[116, 104, 101, 114, 109, 111, 115, 116, 97, 116]⟩, ⟨#[115, 109, 111, 107, 101]⟩, ⟨#[108, 101, 97, 107]⟩, ⟨#[118, 97, 108, 118, 101]⟩, ⟨#[109, 101, 116, 101, 114]⟩]
theorem glob_met {W : World} (h : laidMetH Tryd.prog laidL W) : GRel W (allRo W) G_ := by
  rw [MakeChecks.laidMetH_plain _ _ _ (by kernel_rfl)] at h
  obtain ⟨ps, ⟨g0, t0, cs0, f0, p0, q0, hg0, ht0, hv0, hd0, _, _⟩, _, _⟩ := h
  obtain rfl := Option.some.inj (gStd.symm.trans hg0)
  obtain rfl := Option.some.inj (tStd.symm.trans ht0)
  obtain ⟨l, hcs, hd⟩ := arr_strs kids (of_decide_eq_true (by kernel_rfl)) (n := 8) (e := 9) (by kernel_rfl) (by kernel_rfl) (by kernel_rfl) hd0
  have hl : l = stdNames := by
    have h1 : (stdNames.map fun s => (DataW.lit (H := Unit) (.string s.data.toList))) = l.map fun s => .lit (.string s.data.toList) := by
      have : (DataW.agg (H := Unit) (stdNames.map fun s => .lit (.string s.data.toList))) = .agg (l.map fun s => .lit (.string s.data.toList)) := by rw [← hd]; rfl
      simpa using this
    exact (strs_inj h1).symm
  subst hl
  intro g cs hg
  unfold G_ at hg
  split at hg
  · simp only [Option.some.injEq] at hg
    subst hg
    refine .ptr G0_ ⟨0, 0, none⟩ (fun j => cs0.getD j undef) (fun j x hj => ?_) fun j x hj => ?_
    · have hjl : j < 8 := (List.getElem?_eq_some_iff.1 hj).1
      have h1 := World.var?_cell hg0 hv0 j
      have h2 : cs0[j]? = (stdNames.map Value.string)[j]? := by rw [← hcs]; simp
      have h3 : W.cell? ⟨0, j, none⟩ = some (cs0.getD j undef) := by
        rw [h1]
        have : j < cs0.size := by have := congrArg List.length hcs; simp at this; rw [this]; exact hjl
        simp [this]
      rw [addLit, Nat.zero_add]
      exact ⟨show (0 : Nat) < W.heap.size from cell_lt (a := ⟨0, j, none⟩) h3, h3⟩
    · have hjl : j < 8 := (List.getElem?_eq_some_iff.1 hj).1
      have h2 : cs0[j]? = (stdNames.map Value.string)[j]? := by rw [← hcs]; simp
      have h4 : G0_[j]? = (stdNames.map fun s => RV.v (.string s))[j]? := rfl
      rw [h4, List.getElem?_map] at hj
      rw [List.getElem?_map] at h2
      cases hs : stdNames[j]? with
      | none => rw [hs] at hj; cases hj
      | some s =>
        rw [hs] at hj h2
        simp only [Option.map_some, Option.some.injEq] at hj h2
        subst hj
        rw [Array.getD_eq_getD_getElem?, h2]
        exact .v _ rfl
  · cases hg
end Go.Proofs.YtelohjccoimnaaaDoor
