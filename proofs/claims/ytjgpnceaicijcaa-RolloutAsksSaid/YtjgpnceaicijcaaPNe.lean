/- The AV calculus: own maps with typed entries. Conditions: none. -/
import Derived.Test.YtjgpnceaicijcaaPNd
namespace Go.Av
open Go Go.MapKept

/-- A map's entries: a new value for a key; an old key keeps its place. -/
def mput {K V : Type} [DecidableEq K] : List (K × V) → K → V → List (K × V)
  | [], k, v => [(k, v)]
  | (k', v') :: r, k, v => if k' = k then (k, v) :: r else (k', v') :: mput r k v
def mget {K V : Type} [DecidableEq K] : List (K × V) → K → Option V
  | [], _ => none
  | (k', v') :: r, k => if k' = k then some v' else mget r k
theorem mget_some {K V : Type} [DecidableEq K] : ∀ {l : List (K × V)} {k : K} {v : V}, mget l k = some v → ∃ i, l[i]? = some (k, v) ∧ ∀ w : V, mput l k w = l.set i (k, w)
  | [], _, _, h => by cases h
  | (k', v') :: r, k, v, h => by
    simp only [mget] at h
    split at h
    · rename_i e
      cases h
      subst e
      exact ⟨0, rfl, fun w => by simp [mput]⟩
    · rename_i e
      obtain ⟨i, h1, h2⟩ := mget_some h
      exact ⟨i + 1, by simpa using h1, fun w => by simp [mput, e, h2 w]⟩
theorem mget_none {K V : Type} [DecidableEq K] : ∀ {l : List (K × V)} {k : K}, mget l k = none → (∀ p ∈ l, p.1 ≠ k) ∧ ∀ w : V, mput l k w = l ++ [(k, w)]
  | [], _, _ => ⟨by simp, fun w => rfl⟩
  | (k', v') :: r, k, h => by
    simp only [mget] at h
    split at h
    · cases h
    · rename_i e
      obtain ⟨h1, h2⟩ := mget_none h
      refine ⟨fun p hp => ?_, fun w => by simp [mput, e, h2 w]⟩
      rcases List.mem_cons.1 hp with rfl | hp
      · exact e
      · exact h1 p hp
theorem mget_at {K V : Type} [DecidableEq K] [Inhabited V] {l : List (K × V)} {k : K} (h : (mget l k).isSome = true) : mget l k = some ((mget l k).getD default) := by
  cases hg : mget l k with
  | some v => rfl
  | none => rw [hg] at h; cases h
theorem mget_no {K V : Type} [DecidableEq K] {l : List (K × V)} {k : K} (h : (mget l k).isSome = false) : mget l k = none := by
  cases hg : mget l k with
  | some v => rw [hg] at h; cases h
  | none => rfl
/-- The entries as the map holds them. -/
def ents {K V : Type} (key : K → Value) (C : V → List RV) (l : List (K × V)) : List (Value × List RV) := l.map fun p => (key p.1, C p.2)
/-- Strings and numbers as keys. -/
structure KeyFn {K : Type} (d : TypeDesc) (key : K → Value) : Prop where
  ok : ∀ k, IsKey d (key k)
  inj : ∀ k k', key k = key k' → k = k'
theorem keyS : KeyFn .string (fun s : ByteArray => Value.string s) := ⟨fun _ => trivial, fun _ _ h => by cases h; rfl⟩
theorem keyI (ik : IntKind) : KeyFn (.int ik) (fun n : Int => Value.int ik n) := ⟨fun _ => rfl, fun _ _ h => by cases h; rfl⟩
theorem KeyFn.ents {K V : Type} {d : TypeDesc} {key : K → Value} (h : KeyFn d key) (C : V → List RV) (l : List (K × V)) : KeysOk d (ents key C l) := by
  intro p hp
  obtain ⟨q, _, rfl⟩ := List.mem_map.1 hp
  exact h.ok q.1

section
variable {P : Program} {G : Glob} {o : Oper} {s : St} {K V : Type} [DecidableEq K]
theorem R_mapPutT {t kt et : TypeId} {d : TypeDesc} {key : K → Value} (hkf : KeyFn d key) (C : V → List RV) (agg : Bool) (l : List (K × V)) (k : K) (e : V) (id : Nat) {m x v : Operand} (ho : o.op = .mapUpdate t m x v) (ht : P.underlying t = some (.map kt et)) (hd : P.underlying kt = some d)
    (hm : aval G s m = .ref id) (hid : hget s.heap id = some (.oth (mapIt agg (ents key C l)))) (hx : aval G s x = .rv (.v (key k))) (hv : valAV agg (C e) (aval G s v)) :
    OpStep P G o s ({ s with heap := hset s.heap id (.oth (mapIt agg (ents key C (mput l k e)))) }.put o.dst .top) := by
  cases hg : mget l k with
  | some w =>
    obtain ⟨i, h1, h2⟩ := mget_some hg
    have h3 : (ents key C l)[i]? = some (key k, C w) := by simp [ents, h1]
    have := R_mapPut_old m x v ho ht hd hm hid hx (hkf.ok k) (hkf.ents C l) hv h3
    have e1 : ents key C (mput l k e) = (ents key C l).set i (key k, C e) := by rw [h2]; simp [ents, List.map_set]
    rw [e1]
    exact this
  | none =>
    obtain ⟨h1, h2⟩ := mget_none hg
    have := R_mapPut_new m x v ho ht hd hm hid hx (hkf.ok k) (hkf.ents C l) hv (fun p hp hk => by
      obtain ⟨q, hq, rfl⟩ := List.mem_map.1 hp
      exact h1 q hq (hkf.inj _ _ hk))
    have e1 : ents key C (mput l k e) = ents key C l ++ [(key k, C e)] := by rw [h2]; simp [ents]
    rw [e1]
    exact this
theorem R_mapGetT {t kt et : TypeId} {d : TypeDesc} {key : K → Value} (hkf : KeyFn d key) (C : V → List RV) (agg : Bool) (l : List (K × V)) (k : K) (e : V) (c : Bool) {m x : Operand} (ho : o.op = .lookup t m x c) (ht : P.underlying t = some (.map kt et)) (hd : P.underlying kt = some d)
    (hM : MapAt G s m agg (ents key C l)) (hx : aval G s x = .rv (.v (key k))) (hg : mget l k = some e) :
    VStep P G o s (lookR c (getAV agg (C e)) true) := by
  obtain ⟨i, h1, _⟩ := mget_some hg
  have h3 : (ents key C l)[i]? = some (key k, C e) := by simp [ents, h1]
  exact R_mapGet c m x ho ht hd hM hx (hkf.ok k) (hkf.ents C l) h3
theorem R_mapGetT_none {t kt et : TypeId} {d : TypeDesc} {key : K → Value} (hkf : KeyFn d key) (C : V → List RV) (agg : Bool) (l : List (K × V)) (k : K) (c : Bool) (z : Value) {m x : Operand} (ho : o.op = .lookup t m x c) (ht : P.underlying t = some (.map kt et)) (hd : P.underlying kt = some d)
    (hM : MapAt G s m agg (ents key C l)) (hx : aval G s x = .rv (.v (key k))) (hg : mget l k = none) (hz : (P.info? et).bind (·.zero) = some z) (hzo : zOk z = true) :
    VStep P G o s (lookR c (zAV z) false) :=
  R_mapGet_none c m x ho ht hd hM hx (hkf.ok k) (hkf.ents C l) (fun p hp hk => by
    obtain ⟨q, hq, rfl⟩ := List.mem_map.1 hp
    exact (mget_none hg).1 q hq (hkf.inj _ _ hk)) hz hzo
end
end Go.Av
