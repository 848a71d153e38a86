/- The AV calculus, part X: a region that draws its order, and ends with operations that come behind all others. Conditions: none. -/
import Derived.Test.YtjgpnceaicijcaaPMw
namespace Go.Av
open Go

section
variable {P : Program} {G : Glob} {s0 : St}
theorem wanted_of {ops : Array Oper} {E : Entry} {s : St} {a : Act} {w : World} {o : Oper} {b : Bool} (hr : Rel E G s a w) (hg : gwant ops s o = some b) : Region.wanted o (yielded ops a.tmps) = b := by
  unfold gwant at hg
  split at hg
  · rename_i hn
    simp at hg
    subst hg
    simp [Region.wanted, hn]
  · rename_i j c hn
    split at hg
    · rename_i d hdd
      split at hg
      · rename_i c' hs
        have hy := yielded_of hr hdd hs
        simp only [Option.some.injEq] at hg
        cases c <;> cases c' <;> simp at hg <;> subst hg <;> simp [Region.wanted, hn, hy]
      · rename_i cs hs
        have hy := yielded_none hr hdd hs
        simp at hg
        subst hg
        simp [Region.wanted, hn, hy]
      · cases hg
    · cases hg

/-- A value is put with nil slices seen as empty rows. -/
theorem DStep.nl {ops : Array Oper} {T : List AV} {o : Oper} {v v' : AV} (m : List (Option Nat)) (h : DStep P G ops s0 T o v) (e : nilsA m v = v' := by as_aux_lemma => kernel_rfl) : DStep P G ops s0 T o v' := by
  subst e
  intro s h1 h2 h3 hlen hag
  rcases h s h1 h2 h3 hlen hag with ⟨hg, hop⟩ | ⟨hg, rfl⟩
  · refine .inl ⟨hg, fun E a w hr K Q hK => hop E a w hr K Q fun a' w' hr' => hK a' w' ?_⟩
    obtain ⟨β, ro, h⟩ := hr'
    cases hd : o.dst with
    | none => simp only [hd, St.put] at h ⊢; exact ⟨β, ro, h⟩
    | some d =>
      simp only [hd, St.put] at h ⊢
      refine ⟨β, ro, h.defers, by simpa using h.size, fun i x hx => ?_, h.heap, h.glob, h.trans, h.base⟩
      by_cases hi : d = i
      · subst hi
        simp only [List.getElem?_set, if_true] at hx
        split at hx
        · rename_i hlt
          simp only [Option.some.injEq] at hx
          subst hx
          exact nilsA_rel (h.slot d v (by simp [hlt]))
        · cases hx
      · rw [List.getElem?_set_ne hi] at hx
        exact h.slot i x (by rw [List.getElem?_set_ne hi]; exact hx)
  · exact .inr ⟨hg, rfl⟩
end
end Go.Av
