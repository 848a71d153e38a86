/- The statement MsgCanonical of chapter 24 holds. Conditions: none. -/
import Derived.Test.YtnnlaccdendkpaaPRm
import Derived.Test.YtnnlaccdendkpaaPBr
import Derived.SevenTiedAt
namespace Go.Proofs.Ytnnlaccdendkpaa
open Go Go.Av Go.Hh Go.Proofs Go.ChangeShapes Go.WideShapes Go.ChangeAt Go.WideMaps Go.WideElems Go.RowKit
set_option maxRecDepth 100000
set_option maxHeartbeats 4000000
theorem msgCanonical_lifted (os : Os) (started : os.Started) (H : Type) (enc : TypeId × Value → H) :
    ReturnsInHanded {} Try.checked os 7 .any (fun w args => Rows.msgCanonicalSpec.pre enc Try.prog Try.f7 [] false w args ∧ sizedMet enc Try.prog Try.f7 (OpenSpec.ofChange Rows.msgCanonicalSpec) false w args)
      (Rows.msgCanonicalSpec.post enc Try.prog Try.f7 false true false false) := by
  refine returnsInHanded_of_change (C := Try.checked) own started (by kernel_rfl) Try.func7
    (ChangeSpec.witness6 (enc := enc) (C := Try.checked) false ⟨#[], #[.string ByteArray.empty, .int .u8 0], []⟩ 20 (by kernel_rfl) (by kernel_rfl) (by kernel_rfl) (by kernel_rfl)) ?_
  intro W base args ds gs before hval0 hW _ _
  have hval : ∀ (j : Nat) t v, Try.f7.params[j]? = some t → args[j]? = some v → Value.okWide Try.prog W .any base t v := hval0
  have hW' := hW
  obtain ⟨p, q, hA0, hV, rfl, hfz, hnd⟩ := hW
  have hA : DataW.TrodAll enc Try.prog W 0 (fun _ => true) true Try.f7.params.toList args.toList ds p := hA0
  rw [Try.params7] at hA hval
  obtain ⟨rfl, rfl⟩ := trodVars_none hV
  obtain ⟨al⟩ := args
  simp only at hA
  obtain ⟨v0, rest0, d0, ds0, q0, qr0, rfl, rfl, rfl, h0, hA⟩ := trodAll_cons hA
  obtain ⟨v1, rest1, d1, ds1, q1, qr1, rfl, rfl, rfl, h1, hA⟩ := trodAll_cons hA
  obtain ⟨rfl, rfl, rfl⟩ := trodAll_nil hA
  obtain ⟨r0, hsh0, hr0⟩ := (arg_fits kids (m := 20) (by kernel_rfl) h0).one (okOne (hval 0 9 v0 rfl rfl) (by kernel_rfl)) (β := fun _ => undef) (N := 0)
  obtain ⟨a0, he0, _⟩ := hsh0.str_inv (by kernel_rfl)
  simp only [List.cons.injEq, and_true] at he0
  subst he0
  obtain ⟨r1, hsh1, hr1⟩ := (arg_fits kids (m := 20) (by kernel_rfl) h1).one (okOne (hval 1 5 v1 rfl rfl) (by kernel_rfl)) (β := fun _ => undef) (N := 0)
  obtain ⟨a1, he1, _⟩ := hsh1.int_inv (k := .u8) (by kernel_rfl)
  simp only [List.cons.injEq, and_true] at he1
  subst he1
  exact law_post (β := fun _ => undef) hW' rfl rfl (by kernel_rfl) (tb := 4) (by kernel_rfl) kids full (by rw [Try.params7]; decide) (avs' := [vs a0, .rv (.v (.int .u8 a1))]) rfl (fun i x hx => by
    match i, hx with
    | 0, hx => simp only [List.getElem?_cons_succ, List.getElem?_cons_zero, Option.some.injEq] at hx; subst hx; exact hr0
    | 1, hx => simp only [List.getElem?_cons_succ, List.getElem?_cons_zero, Option.some.injEq] at hx; subst hx; exact hr1
    | i + 2, hx => simp at hx) glob_met (lCanonical_true a0 a1 ▸ lCanonicalM_ok a0 a1)
theorem msgCanonical_holds : Rows.MsgCanonicalSaid :=
 OpenClaim.holds_of_wide 7 Try.f7 rfl rfl rfl rfl rfl rfl rfl ⟨rfl, rfl, rfl, rfl, rfl⟩ rfl rfl rfl rfl rfl (by kernel_rfl) Try.func7 (by kernel_rfl)
  (of_decide_eq_true (by kernel_rfl)) (by unfold Func.isWrapper; first | (rw [if_pos (by decide +kernel)]; kernel_rfl) | (rw [if_neg (by decide +kernel)]; exact ⟨rfl, rfl⟩))
  (fun os started H enc _ => msgCanonical_lifted os started H enc)
#print axioms msgCanonical_holds
end Go.Proofs.Ytnnlaccdendkpaa
