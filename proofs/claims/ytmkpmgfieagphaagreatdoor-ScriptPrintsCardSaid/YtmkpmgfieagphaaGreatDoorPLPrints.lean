/- The law ScriptPrints in plain Lean. Conditions: none. -/
import Derived.Test.YtmkpmgfieagphaaGreatDoorPLokA
namespace Go.Av
open Go Go.Hh
theorem p3_ok {x : ActV} (h : OkAct x) : p3 x := ⟨p13_ok h, p14_ok h, fun _ => p15_ok⟩
theorem m3_true {x : ActV} (h : OkAct x) : m3 x = true := by
 unfold m3
 rw [m14_eq h, m13_eq h, m15_true]
 have e1 : cmS .eql (prB x).1 (prB x).1 = true := beqS_self _
 have e2 : ((prB x).2 == (prB x).2) = true := by simp
 simp only [e1, e2]
 rfl
theorem lawPrints : ∀ x, (∀ d ∈ upL md3.ps x, OkA d) → preOk md3.pre x ∧ resA md3.rs (md3.m x) = vb true := by
 intro x h
 have hx : OkAct x := okAct (h _ (List.mem_of_getElem? (i := 0) rfl))
 refine ⟨p3_ok hx, ?_⟩
 show vb (m3 x) = vb true
 rw [m3_true hx]
end Go.Av
