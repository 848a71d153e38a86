/- The statement MsgDecodes of chapter 24 holds. Conditions: none. -/
import Derived.Test.YtnnlaccdendkpaaVRm
import Derived.Test.YtnnlaccdendkpaaVBr
import Derived.SevenTiedAt
namespace Go.Proofs.Ytnnlaccdendkpaa
open Go Go.Av Go.Hh Go.Proofs Go.ChangeShapes Go.WideShapes Go.ChangeAt Go.WideMaps Go.WideElems Go.RowKit
set_option maxRecDepth 100000
set_option maxHeartbeats 4000000
theorem msgDecodes_lifted (os : Os) (started : os.Started) (H : Type) (enc : TypeId × Value → H) :
    ReturnsInHanded {} Try.checked os 5 .any (fun w args => Rows.msgDecodesSpec.pre enc Try.prog Try.f5 [] false w args ∧ sizedMet enc Try.prog Try.f5 (OpenSpec.ofChange Rows.msgDecodesSpec) false w args)
      (Rows.msgDecodesSpec.post enc Try.prog Try.f5 false true false false) := by
  refine returnsInHanded_of_change (C := Try.checked) own started (by kernel_rfl) Try.func5
    (ChangeSpec.witness6 (enc := enc) (C := Try.checked) false ⟨#[], #[.string ByteArray.empty], []⟩ 20 (by kernel_rfl) (by kernel_rfl) (by kernel_rfl) (by kernel_rfl)) ?_
  intro W base args ds gs before hval0 hW _ _
  have hval : ∀ (j : Nat) t v, Try.f5.params[j]? = some t → args[j]? = some v → Value.okWide Try.prog W .any base t v := hval0
  have hW' := hW
  obtain ⟨p, q, hA0, hV, rfl, hfz, hnd⟩ := hW
  have hA : DataW.TrodAll enc Try.prog W 0 (fun _ => true) true Try.f5.params.toList args.toList ds p := hA0
  rw [Try.params5] at hA hval
  obtain ⟨rfl, rfl⟩ := trodVars_none hV
  obtain ⟨al⟩ := args
  simp only at hA
  obtain ⟨v0, rest0, d0, ds0, q0, qr0, rfl, rfl, rfl, h0, hA⟩ := trodAll_cons hA
  obtain ⟨rfl, rfl, rfl⟩ := trodAll_nil hA
  obtain ⟨r0, hsh0, hr0⟩ := (arg_fits kids (m := 20) (by kernel_rfl) h0).one (okOne (hval 0 9 v0 rfl rfl) (by kernel_rfl)) (β := fun _ => undef) (N := 0)
  obtain ⟨a0, he0, _⟩ := hsh0.str_inv (by kernel_rfl)
  simp only [List.cons.injEq, and_true] at he0
  subst he0
  exact law_post (β := fun _ => undef) hW' rfl rfl (by kernel_rfl) (tb := 4) (by kernel_rfl) kids full (by rw [Try.params5]; decide) (avs' := [vs a0]) rfl (fun i x hx => by
    match i, hx with
    | 0, hx => simp only [List.getElem?_cons_succ, List.getElem?_cons_zero, Option.some.injEq] at hx; subst hx; exact hr0
    | i + 1, hx => simp at hx) glob_met (lDecodes_true a0 ▸ lDecodesM_ok a0)
theorem msgDecodes_holds : Rows.MsgDecodesSaid :=
 OpenClaim.holds_of_wide 5 Try.f5 rfl rfl rfl rfl rfl rfl rfl ⟨rfl, rfl, rfl, rfl, rfl⟩ rfl rfl rfl rfl rfl (by kernel_rfl) Try.func5 (by kernel_rfl)
  (of_decide_eq_true (by kernel_rfl)) (by unfold Func.isWrapper; first | (rw [if_pos (by decide +kernel)]; kernel_rfl) | (rw [if_neg (by decide +kernel)]; exact ⟨rfl, rfl⟩))
  (fun os started H enc _ => msgDecodes_lifted os started H enc)
#print axioms msgDecodes_holds
end Go.Proofs.Ytnnlaccdendkpaa
