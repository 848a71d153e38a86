/- The AV calculus: reading a map whose missing entries are a struct's zero: one value. Conditions: none. -/
import Derived.Test.YtnnlaccdendkpaaVNl
namespace Go.Av
open Go
section
variable {P : Program} {G : Glob} {Q : Exit → St → Prop} {s : St} {K V : Type} [DecidableEq K]
theorem St.put_nils (s : St) (d : Nat) (v : AV) (m : List (Option Nat)) : (s.put (some d) v).nils d m = s.put (some d) (nilsA m v) := by
 unfold St.put St.nils
 dsimp only
 rw [List.getElem?_set_self']
 cases h : s.slots[d]? with
 | none =>
  have hd : s.slots.length ≤ d := List.getElem?_eq_none_iff.1 h
  simp [List.set_eq_of_length_le hd]
 | some x => simp [List.set_set]
theorem AOps.mapGetD {ops : Array Oper} {o : Oper} {rest : List Oper} {d : TypeDesc} {key : K → Value} (hkf : KeyFn d key) (C : V → List RV) (agg : Bool) (l : List (K × V)) (x : K) (z : V) (m y : Operand) (et : TypeId) (zv : Value) (msk : List (Option Nat)) (j : Nat) (hM : MapAt G s m agg (ents key C l))
    (k : AOps P G ops Q rest (s.put (some j) (getAV agg (C ((mget l x).getD z)))))
    (hg : gwant ops s o = some true := by as_aux_lemma => kernel_rfl) (ho : lookOf P o = some (m, y, false, d, et) := by as_aux_lemma => kernel_rfl) (hy : aval G s y = .rv (.v (key x)) := by as_aux_lemma => kernel_rfl)
    (hz : (P.info? et).bind (·.zero) = some zv := by as_aux_lemma => kernel_rfl) (hzo : zOk zv = true := by as_aux_lemma => kernel_rfl) (hd : o.dst = some j := by as_aux_lemma => kernel_rfl)
    (hn : nilsA msk (zAV zv) = getAV agg (C z) := by as_aux_lemma => kernel_rfl) : AOps P G ops Q (o :: rest) s := by
  cases h : mget l x with
  | some e =>
    rw [h] at k
    exact AOps.mapGet hkf C agg l x e m y false et hM h (by rw [hd]; exact k) hg ho hy
  | none =>
    rw [h] at k
    refine AOps.mapGetN hkf C agg l x m y false et zv hM h ?_ hg ho hy hz hzo
    rw [hd]
    refine AOps.le (Le.nils j msk (St.put_nils s j _ msk)) ?_
    show AOps P G ops Q rest (s.put (some j) (nilsA msk (zAV zv)))
    rw [hn]
    exact k
end
end Go.Av
