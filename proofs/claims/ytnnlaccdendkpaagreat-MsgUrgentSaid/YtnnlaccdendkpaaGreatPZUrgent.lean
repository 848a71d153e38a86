/- The statement MsgUrgent of chapter 24 holds. Conditions: none. -/
import Derived.Test.YtnnlaccdendkpaaGreatPRu
import Derived.Test.YtnnlaccdendkpaaGreatPBr
import Derived.SevenTiedAt
namespace Go.Proofs.YtnnlaccdendkpaaGreat
open Go Go.Av Go.Hh Go.Proofs Go.ChangeShapes Go.WideShapes Go.ChangeAt Go.WideMaps Go.WideElems Go.RowKit
set_option maxRecDepth 100000
set_option maxHeartbeats 4000000
theorem msgUrgent_lifted (os : Os) (started : os.Started) (H : Type) (enc : TypeId × Value → H) :
    ReturnsInHanded {} Tryz.checked os 3 .any (fun w args => Rows.msgUrgentSpec.pre enc Tryz.prog Tryz.f3 [] false w args ∧ sizedMet enc Tryz.prog Tryz.f3 (OpenSpec.ofChange Rows.msgUrgentSpec) false w args)
      (Rows.msgUrgentSpec.post enc Tryz.prog Tryz.f3 false true false false) := by
  refine returnsInHanded_of_change (C := Tryz.checked) own started (by kernel_rfl) Tryz.func3
    (ChangeSpec.witness6 (enc := enc) (C := Tryz.checked) false ⟨#[], #[.agg #[.slice none 0 0, .slice none 0 0], .agg #[.int .i64 0, .int .i64 0, .int .i64 0, .int .i64 0, .slice none 0 0, .string ByteArray.empty, .string ByteArray.empty, .string ByteArray.empty]], []⟩ 20 (by kernel_rfl) (by kernel_rfl) (by kernel_rfl) (by kernel_rfl)) ?_
  intro W base args ds gs before hval0 hW _ _
  have hval : ∀ (j : Nat) t v, Tryz.f3.params[j]? = some t → args[j]? = some v → Value.okWide Tryz.prog W .any base t v := hval0
  have hW' := hW
  obtain ⟨p, q, hA0, hV, rfl, hfz, hnd⟩ := hW
  have hA : DataW.TrodAll enc Tryz.prog W 0 (fun _ => true) true Tryz.f3.params.toList args.toList ds p := hA0
  rw [Tryz.params3] at hA hval
  obtain ⟨rfl, rfl⟩ := trodVars_none hV
  obtain ⟨al⟩ := args
  simp only at hA
  obtain ⟨v0, rest0, d0, ds0, q0, qr0, rfl, rfl, rfl, h0, hA⟩ := trodAll_cons hA
  obtain ⟨v1, rest1, d1, ds1, q1, qr1, rfl, rfl, rfl, h1, hA⟩ := trodAll_cons hA
  obtain ⟨rfl, rfl, rfl⟩ := trodAll_nil hA
  obtain ⟨cs0, rfl⟩ := okAgg (hval 0 25 v0 rfl rfl) (by kernel_rfl)
  obtain ⟨rs0, hsh0, hr0⟩ := (arg_fits kids (m := 20) (by kernel_rfl) h0).agg (β := fun _ => undef) (N := 0)
  obtain ⟨a0, rfl⟩ := sh_25 hsh0
  obtain ⟨cs1, rfl⟩ := okAgg (hval 1 28 v1 rfl rfl) (by kernel_rfl)
  obtain ⟨rs1, hsh1, hr1⟩ := (arg_fits kids (m := 20) (by kernel_rfl) h1).agg (β := fun _ => undef) (N := 0)
  obtain ⟨a1, rfl⟩ := sh_28 hsh1
  exact law_post (β := fun _ => undef) hW' rfl rfl (by kernel_rfl) (tb := 4) (by kernel_rfl) kids full (by rw [Tryz.params3]; decide) (avs' := [.agg (avs (Home.cells a0)), .agg (avs (MsgV.cells a1))]) rfl (fun i x hx => by
    match i, hx with
    | 0, hx => simp only [List.getElem?_cons_succ, List.getElem?_cons_zero, Option.some.injEq] at hx; subst hx; exact hr0
    | 1, hx => simp only [List.getElem?_cons_succ, List.getElem?_cons_zero, Option.some.injEq] at hx; subst hx; exact hr1
    | i + 2, hx => simp at hx) glob_met (lUrgent_true a0 a1 ▸ lUrgentM_ok a0 a1)
theorem msgUrgent_holds : Rows.MsgUrgentSaid :=
 OpenClaim.holds_of_wide 3 Tryz.f3 rfl rfl rfl rfl rfl rfl rfl ⟨rfl, rfl, rfl, rfl, rfl⟩ rfl rfl rfl rfl rfl (by kernel_rfl) Tryz.func3 (by kernel_rfl)
  (of_decide_eq_true (by kernel_rfl)) (by unfold Func.isWrapper; first | (rw [if_pos (by decide +kernel)]; kernel_rfl) | (rw [if_neg (by decide +kernel)]; exact ⟨rfl, rfl⟩))
  (fun os started H enc _ => msgUrgent_lifted os started H enc)
#print axioms msgUrgent_holds
end Go.Proofs.YtnnlaccdendkpaaGreat
