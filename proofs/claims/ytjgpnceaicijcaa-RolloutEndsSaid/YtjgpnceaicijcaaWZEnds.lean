/- The statement RolloutEnds of chapter 51 holds. Conditions: none. -/
import Derived.Test.YtjgpnceaicijcaaWPends
import Derived.Test.YtjgpnceaicijcaaWBr
import Derived.SevenTiedAt
namespace Go.Proofs.Ytjgpnceaicijcaa
open Go Go.Av Go.Hh Go.Proofs Go.ChangeShapes Go.WideShapes Go.ChangeAt Go.WideMaps Go.WideElems Go.RowKit
set_option maxRecDepth 100000
set_option maxHeartbeats 4000000
theorem rolloutEnds_lifted (os : Os) (started : os.Started) (H : Type) (enc : TypeId × Value → H) :
    ReturnsInHanded {} Try.checked os 5 .any (fun w args => Rows.rolloutEndsSpec.pre enc Try.prog Try.f5 [] false w args ∧ sizedMet enc Try.prog Try.f5 (OpenSpec.ofChange Rows.rolloutEndsSpec) false w args)
      (Rows.rolloutEndsSpec.post enc Try.prog Try.f5 false true false false) := by
  refine returnsInHanded_of_change (C := Try.checked) own started (by kernel_rfl) Try.func5
    (ChangeSpec.witness6 (enc := enc) (C := Try.checked) false ⟨#[], #[.agg #[.slice none 0 0, .slice none 0 0], .agg #[.int .i64 0, .int .i64 0, .slice none 0 0], .slice none 0 0, .int .i64 0], []⟩ 20 (by kernel_rfl) (by kernel_rfl) (by kernel_rfl) (by kernel_rfl)) ?_
  intro W base args ds gs before hval0 hW _ _
  have hval : ∀ (j : Nat) t v, Try.f5.params[j]? = some t → args[j]? = some v → Value.okWide Try.prog W .any base t v := hval0
  have hW' := hW
  obtain ⟨p, q, hA0, hV, rfl, hfz, hnd⟩ := hW
  have hA : DataW.TrodAll enc Try.prog W 0 (fun _ => true) true Try.f5.params.toList args.toList ds p := hA0
  rw [Try.params5] at hA hval
  obtain ⟨rfl, rfl⟩ := trodVars_none hV
  obtain ⟨al⟩ := args
  simp only at hA
  obtain ⟨v0, rest0, d0, ds0, q0, qr0, rfl, rfl, rfl, h0, hA⟩ := trodAll_cons hA
  obtain ⟨v1, rest1, d1, ds1, q1, qr1, rfl, rfl, rfl, h1, hA⟩ := trodAll_cons hA
  obtain ⟨v2, rest2, d2, ds2, q2, qr2, rfl, rfl, rfl, h2, hA⟩ := trodAll_cons hA
  obtain ⟨v3, rest3, d3, ds3, q3, qr3, rfl, rfl, rfl, h3, hA⟩ := trodAll_cons hA
  obtain ⟨rfl, rfl, rfl⟩ := trodAll_nil hA
  obtain ⟨cs0, rfl⟩ := okAgg (hval 0 25 v0 rfl rfl) (by kernel_rfl)
  obtain ⟨rs0, hsh0, hr0⟩ := (arg_fits kids (m := 20) (by kernel_rfl) h0).agg (β := fun _ => undef) (N := 0)
  obtain ⟨a0, rfl⟩ := sh_25 hsh0
  obtain ⟨cs1, rfl⟩ := okAgg (hval 1 28 v1 rfl rfl) (by kernel_rfl)
  obtain ⟨rs1, hsh1, hr1⟩ := (arg_fits kids (m := 20) (by kernel_rfl) h1).agg (β := fun _ => undef) (N := 0)
  obtain ⟨a1, rfl⟩ := sh_28 hsh1
  obtain ⟨r2, hsh2, hr2⟩ := (arg_fits kids (m := 20) (by kernel_rfl) h2).one (okOne (hval 2 29 v2 rfl rfl) (by kernel_rfl)) (β := fun _ => undef) (N := 0)
  obtain ⟨es2, he2, _, hs2⟩ := hsh2.slice_inv (e := 68) (by kernel_rfl)
  obtain ⟨a2, rfl⟩ := list_of (C := Pair.cells) fun x hx => sh_68 (hs2 x hx)
  simp only [List.cons.injEq, and_true] at he2
  subst he2
  obtain ⟨r3, hsh3, hr3⟩ := (arg_fits kids (m := 20) (by kernel_rfl) h3).one (okOne (hval 3 3 v3 rfl rfl) (by kernel_rfl)) (β := fun _ => undef) (N := 0)
  obtain ⟨a3, he3, _⟩ := hsh3.int_inv (k := .i64) (by kernel_rfl)
  simp only [List.cons.injEq, and_true] at he3
  subst he3
  exact law_post (β := fun _ => undef) hW' rfl rfl (by kernel_rfl) (tb := 4) (by kernel_rfl) kids full (by rw [Try.params5]; decide) (avs' := [.agg (avs (Home.cells a0)), .agg (avs (Firmware.cells a1)), .rv (.sl 2 (a2.map Pair.cells)), vi a3]) rfl (fun i x hx => by
    match i, hx with
    | 0, hx => simp only [List.getElem?_cons_succ, List.getElem?_cons_zero, Option.some.injEq] at hx; subst hx; exact hr0
    | 1, hx => simp only [List.getElem?_cons_succ, List.getElem?_cons_zero, Option.some.injEq] at hx; subst hx; exact hr1
    | 2, hx => simp only [List.getElem?_cons_succ, List.getElem?_cons_zero, Option.some.injEq] at hx; subst hx; exact hr2
    | 3, hx => simp only [List.getElem?_cons_succ, List.getElem?_cons_zero, Option.some.injEq] at hx; subst hx; exact hr3
    | i + 4, hx => simp at hx) glob_met (lEndsM_true a0 a1 a2 a3 ▸ lEndsM_ok a0 a1 a2 a3)
theorem rolloutEnds_holds : Rows.RolloutEndsSaid :=
  OpenClaim.holds_of_wide 5 Try.f5 rfl rfl rfl rfl rfl rfl rfl ⟨rfl, rfl, rfl, rfl, rfl⟩ rfl rfl rfl rfl rfl (by kernel_rfl) Try.func5 (by kernel_rfl)
    (of_decide_eq_true (by kernel_rfl)) (by unfold Func.isWrapper; first | (rw [if_pos (by decide +kernel)]; kernel_rfl) | (rw [if_neg (by decide +kernel)]; exact ⟨rfl, rfl⟩))
    (fun os started H enc _ => rolloutEnds_lifted os started H enc)
#print axioms rolloutEnds_holds
end Go.Proofs.Ytjgpnceaicijcaa
