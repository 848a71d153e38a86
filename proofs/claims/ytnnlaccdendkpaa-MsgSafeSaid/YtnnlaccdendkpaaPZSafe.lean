/- The statement MsgSafe of chapter 24 holds. Conditions: none. -/
import Derived.Test.YtnnlaccdendkpaaPRs
import Derived.Test.YtnnlaccdendkpaaPBr
import Derived.SevenTiedAt
namespace Go.Proofs.Ytnnlaccdendkpaa
open Go Go.Av Go.Hh Go.Proofs Go.ChangeShapes Go.WideShapes Go.ChangeAt Go.WideMaps Go.WideElems Go.RowKit
set_option maxRecDepth 100000
set_option maxHeartbeats 4000000
theorem msgSafe_lifted (os : Os) (started : os.Started) (H : Type) (enc : TypeId × Value → H) :
    ReturnsInHanded {} Try.checked os 8 .any (fun w args => Rows.msgSafeSpec.pre enc Try.prog Try.f8 [] false w args ∧ sizedMet enc Try.prog Try.f8 (OpenSpec.ofChange Rows.msgSafeSpec) false w args)
      (Rows.msgSafeSpec.post enc Try.prog Try.f8 false true false false) := by
  refine returnsInHanded_of_change (C := Try.checked) own started (by kernel_rfl) Try.func8
    (ChangeSpec.witness6 (enc := enc) (C := Try.checked) false ⟨#[], #[.agg #[.slice none 0 0, .slice none 0 0], .agg #[.int .i64 0, .int .i64 0, .int .i64 0, .int .i64 0, .slice none 0 0, .string ByteArray.empty, .string ByteArray.empty, .string ByteArray.empty], .string ByteArray.empty], []⟩ 20 (by kernel_rfl) (by kernel_rfl) (by kernel_rfl) (by kernel_rfl)) ?_
  intro W base args ds gs before hval0 hW _ _
  have hval : ∀ (j : Nat) t v, Try.f8.params[j]? = some t → args[j]? = some v → Value.okWide Try.prog W .any base t v := hval0
  have hW' := hW
  obtain ⟨p, q, hA0, hV, rfl, hfz, hnd⟩ := hW
  have hA : DataW.TrodAll enc Try.prog W 0 (fun _ => true) true Try.f8.params.toList args.toList ds p := hA0
  rw [Try.params8] at hA hval
  obtain ⟨rfl, rfl⟩ := trodVars_none hV
  obtain ⟨al⟩ := args
  simp only at hA
  obtain ⟨v0, rest0, d0, ds0, q0, qr0, rfl, rfl, rfl, h0, hA⟩ := trodAll_cons hA
  obtain ⟨v1, rest1, d1, ds1, q1, qr1, rfl, rfl, rfl, h1, hA⟩ := trodAll_cons hA
  obtain ⟨v2, rest2, d2, ds2, q2, qr2, rfl, rfl, rfl, h2, hA⟩ := trodAll_cons hA
  obtain ⟨rfl, rfl, rfl⟩ := trodAll_nil hA
  obtain ⟨cs0, rfl⟩ := okAgg (hval 0 40 v0 rfl rfl) (by kernel_rfl)
  obtain ⟨rs0, hsh0, hr0⟩ := (arg_fits kids (m := 20) (by kernel_rfl) h0).agg (β := fun _ => undef) (N := 0)
  obtain ⟨a0, rfl⟩ := sh_40 hsh0
  obtain ⟨cs1, rfl⟩ := okAgg (hval 1 24 v1 rfl rfl) (by kernel_rfl)
  obtain ⟨rs1, hsh1, hr1⟩ := (arg_fits kids (m := 20) (by kernel_rfl) h1).agg (β := fun _ => undef) (N := 0)
  obtain ⟨a1, rfl⟩ := sh_24 hsh1
  obtain ⟨r2, hsh2, hr2⟩ := (arg_fits kids (m := 20) (by kernel_rfl) h2).one (okOne (hval 2 9 v2 rfl rfl) (by kernel_rfl)) (β := fun _ => undef) (N := 0)
  obtain ⟨a2, he2, _⟩ := hsh2.str_inv (by kernel_rfl)
  simp only [List.cons.injEq, and_true] at he2
  subst he2
  exact law_post (β := fun _ => undef) hW' rfl rfl (by kernel_rfl) (tb := 4) (by kernel_rfl) kids full (by rw [Try.params8]; decide) (avs' := [.agg (avs (Home.cells a0)), .agg (avs (MsgV.cells a1)), vs a2]) rfl (fun i x hx => by
    match i, hx with
    | 0, hx => simp only [List.getElem?_cons_succ, List.getElem?_cons_zero, Option.some.injEq] at hx; subst hx; exact hr0
    | 1, hx => simp only [List.getElem?_cons_succ, List.getElem?_cons_zero, Option.some.injEq] at hx; subst hx; exact hr1
    | 2, hx => simp only [List.getElem?_cons_succ, List.getElem?_cons_zero, Option.some.injEq] at hx; subst hx; exact hr2
    | i + 3, hx => simp at hx) glob_met (lSafe_true a0 a1 a2 ▸ lSafeM_ok a0 a1 a2)
theorem msgSafe_holds : Rows.MsgSafeSaid :=
 OpenClaim.holds_of_wide 8 Try.f8 rfl rfl rfl rfl rfl rfl rfl ⟨rfl, rfl, rfl, rfl, rfl⟩ rfl rfl rfl rfl rfl (by kernel_rfl) Try.func8 (by kernel_rfl)
  (of_decide_eq_true (by kernel_rfl)) (by unfold Func.isWrapper; first | (rw [if_pos (by decide +kernel)]; kernel_rfl) | (rw [if_neg (by decide +kernel)]; exact ⟨rfl, rfl⟩))
  (fun os started H enc _ => msgSafe_lifted os started H enc)
#print axioms msgSafe_holds
end Go.Proofs.Ytnnlaccdendkpaa
