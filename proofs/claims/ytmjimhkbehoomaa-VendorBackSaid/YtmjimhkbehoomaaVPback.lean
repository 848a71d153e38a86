/- VendorBack: what the statement computes is true. Conditions: none. -/
import Derived.Test.YtmjimhkbehoomaaVB8
import Derived.Test.YtmjimhkbehoomaaVQm
namespace Go.Proofs.Ytmjimhkbehoomaa
open Go Go.Av Go.Hh Go.Proofs
theorem lBackM_true (c : Codec) (h : Home) (l : List ItemV) : lBackM c h l = true := by
  unfold lBackM
  cases h1 : ((largeM c h || decide (((l.length : Nat) : Int) > 10)) || (((l.length : Nat) : Int) == 0)) with
  | true => rfl
  | false =>
    simp only [Bool.or_eq_false_iff, decide_eq_false_iff_not, beq_eq_false_iff_ne] at h1
    obtain ⟨⟨_, h2⟩, h3⟩ := h1
    simp only [Bool.false_or]
    cases hs : lBackM_L1 c h l with
    | some r =>
      obtain ⟨j, _, _, hj, _⟩ := scanN_get hs
      unfold lBackM_B1 at hj
      simp only [cond_eq_ite] at hj
      repeat' split at hj
      all_goals first
        | (cases hj; done)
        | (cases hj; rfl)
    | none =>
      simp only [Option.getD_none]
      have hn : 0 < l.length := by omega
      have e0 : l[0]? = some l[0] := List.getElem?_eq_getElem hn
      generalize l[0] = x0 at e0
      have hD : ∀ (k : Nat) (e : ItemV), l[k]? = some e → e.key.dev = x0.key.dev := fun k e he => by
        have := scan_at hs (getElem_lt he)
        unfold lBackM_B1 at this
        simp only [he, e0, cond_eq_ite] at this
        split at this
        · cases this
        · rename_i hq
          simpa using hq
      cases he : ((encodeM c h l).2 != 0) with
      | true =>
        simp only [cond_true]
        rw [encode_err (by simpa using he)]
        rfl
      | false =>
        simp only [cond_false]
        obtain ⟨g1, g2⟩ := encode_ok hD hn (by omega) (bz he)
        rw [e0]
        dsimp only
        rw [g2, g1, wrap64_of _ (by omega) (by omega)]
        have hl : lBackM_L2 c h l x0 = none := scan_none fun j hj => by
          unfold lBackM_B2
          have hx : l[j]? = some l[j] := List.getElem?_eq_getElem hj
          rw [g2]
          dsimp only
          rw [List.getElem?_map, hx]
          simp [strip, beqS_refl]
        rw [hl]
        simp
end Go.Proofs.Ytmjimhkbehoomaa
