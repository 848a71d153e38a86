/- The AV calculus: own maps. Conditions: none. -/
import Derived.Test.YtjgpnceaicijcaaPNc
import Derived.MapFrom
namespace Go.Av
open Go Go.MapKept

/-- The value of an entry: a struct or array (its cells), or one value. -/
def ValIs (R : RV → Value → Prop) (agg : Bool) (cs : List RV) (v : Value) : Prop :=
  match agg with
  | true => ∃ c : Array Value, v = .agg c ∧ c.size = cs.length ∧ ∀ i x, cs[i]? = some x → R x (c.getD i undef)
  | false => ∃ x, cs = [x] ∧ R x v
theorem ValIs.mono {R R' : RV → Value → Prop} {agg : Bool} {cs : List RV} {v : Value} (h : ValIs R agg cs v) (hR : ∀ x c, R x c → R' x c) : ValIs R' agg cs v := by
  cases agg with
  | true => obtain ⟨c, h1, h2, h3⟩ := h; exact ⟨c, h1, h2, fun i x hi => hR _ _ (h3 i x hi)⟩
  | false => obtain ⟨x, h1, h2⟩ := h; exact ⟨x, h1, hR _ _ h2⟩
/-- A map with these entries that nobody writes again. -/
def mapR (agg : Bool) (kvs : List (Value × List RV)) : RV := .mp agg (kvs.map (·.1)) (kvs.map (·.2))
/-- A map with these entries, in the order in which they were made. -/
def mapIt (agg : Bool) (kvs : List (Value × List RV)) : Oth where
  holds R v o := (∃ r, v = .map (some r)) ∧ ∃ (es : Array MapEntry) (clock : Nat), o = .map es clock ∧ es.size = kvs.length ∧ (kvs.map (·.1)).Nodup ∧ ∀ (j : Nat) (k : Value) (cs : List RV), kvs[j]? = some (k, cs) → ∃ e : MapEntry, es[j]? = some e ∧ e.key = k ∧ ValIs R agg cs e.val
  mono R R' v o h hh := by
    obtain ⟨h1, es, clock, h2, h3, h4, h5⟩ := hh
    refine ⟨h1, es, clock, h2, h3, h4, fun j k cs hj => ?_⟩
    obtain ⟨e, e1, e2, e3⟩ := h5 j k cs hj
    exact ⟨e, e1, e2, e3.mono h⟩
  view := some (mapR agg kvs)
  viewOk rv hrv w ro ro' v o b h hb hw hr hr' := by
    simp only [Option.some.injEq] at hrv
    subst hrv
    obtain ⟨⟨r, rfl⟩, es, clock, rfl, h3, h4, h5⟩ := h
    simp only [blk, Option.some.injEq] at hb
    subst hb
    have at_ : ∀ {j : Nat} {cs : List RV}, (kvs.map (·.2))[j]? = some cs → ∃ k e, kvs[j]? = some (k, cs) ∧ es[j]? = some e ∧ e.key = k ∧ ValIs (RRel w ro) agg cs e.val := by
      intro j cs hj
      rw [List.getElem?_map] at hj
      obtain ⟨⟨k, cs'⟩, hk, rfl⟩ := Option.map_eq_some_iff.1 hj
      obtain ⟨e, e1, e2, e3⟩ := h5 j k cs' hk
      exact ⟨k, e, hk, e1, e2, e3⟩
    refine .mp agg _ _ r es clock (fun j i => match agg with
      | true => match es[j]? with
        | some e => match e.val with
          | .agg c => c.getD i undef
          | _ => undef
        | none => undef
      | false => match es[j]? with
        | some e => e.val
        | none => undef) hr' hw (by simpa using h3) (by simp) h4 (fun j k cs hk hv => ?_) (fun j cs i x hv hx => ?_)
    · obtain ⟨k', e, g1, g2, g3, g4⟩ := at_ hv
      rw [List.getElem?_map, g1] at hk
      simp only [Option.map_some, Option.some.injEq] at hk
      refine ⟨e, g2, g3.trans hk, ?_⟩
      cases agg with
      | true =>
        obtain ⟨c, q1, q2, q3⟩ := g4
        exact ⟨c, q1, q2, fun i _ => by simp [g2, q1]⟩
      | false =>
        obtain ⟨x, rfl, q2⟩ := g4
        exact ⟨rfl, by simp [g2]⟩
    · obtain ⟨k', e, g1, g2, g3, g4⟩ := at_ hv
      have up : ∀ x c, RRel w ro x c → RRel w ro' x c := fun x c h => h.keep (fun _ _ => rfl) hr
      cases agg with
      | true =>
        obtain ⟨c, q1, q2, q3⟩ := g4
        have := up _ _ (q3 i x hx)
        simpa [g2, q1] using this
      | false =>
        obtain ⟨y, rfl, q2⟩ := g4
        cases i with
        | zero =>
          simp only [List.getElem?_cons_zero, Option.some.injEq] at hx
          subst hx
          simpa [g2] using up _ _ q2
        | succ i => simp at hx
/-- All keys are keys of the type. -/
def KeysOk (d : TypeDesc) (kvs : List (Value × List RV)) : Prop := ∀ p ∈ kvs, IsKey d p.1

section
variable {P : Program} {G : Glob} {o : Oper} {s : St}
theorem R_makeMap (agg : Bool) (t : TypeId) (ho : o.op = .makeMap t none) (hb : s.base ≤ s.next) :
    OpStep P G o s ({ s with heap := (s.next, .oth (mapIt agg [])) :: s.heap, next := s.next + 1 }.put o.dst (.ref s.next)) := by
  intro E a w ⟨β, ro, hr⟩ K Q hK
  unfold Oper.wp
  simp only [execOp, ho, Instr.makeMap, Option.map_none, Sem.run_bind, Sem.run_pure, Result.andThen_ok, run_newObj]
  have hnone : hget s.heap s.next = none := by
    cases hg : hget s.heap s.next with
    | none => rfl
    | some p => have := hr.trans.new _ _ hg; omega
  have hnew := hr.new (w' := w.alloc (.map #[] 0)) s.next hnone hb (Nat.le_refl _) (.oth (mapIt agg [])) (.map (some w.heap.size)) rfl rfl rfl (by simp) (fun b hb => Go.RowKit.Below.heap_alloc w _ b hb) (fun b hb => by simp [blk] at hb; omega) rfl
    (.oth _ w.heap.size (.map #[] 0) (by rw [upd_same]; rfl) (heap_alloc_new w _) ⟨⟨_, upd_same _ _ _⟩, #[], 0, rfl, rfl, by simp, fun j k cs hj => by simp at hj⟩)
  exact hK _ _ ⟨_, ro, hnew.put o.dst (.ref s.next) (.map (some w.heap.size)) (.ref _ _ (Nat.lt_succ_self _) fun Φ _ => (upd_same _ _ _).symm)⟩

/-- What an own map's slot says. -/
theorem map_of {E : Entry} {a : Act} {w : World} {β : Nat → Value} {ro : Nat → Prop} (hr : RelAt E G s a w β ro) {x : Operand} {id : Nat} (hx : aval G s x = .ref id) {agg : Bool} {kvs : List (Value × List RV)} (hid : hget s.heap id = some (.oth (mapIt agg kvs))) :
    ∃ (r : Nat) (es : Array MapEntry) (clock : Nat), a.eval x = .map (some r) ∧ β id = .map (some r) ∧ w.heap[r]? = some (.map es clock) ∧ es.size = kvs.length ∧ (kvs.map (·.1)).Nodup ∧ ∀ (j : Nat) (k : Value) (cs : List RV), kvs[j]? = some (k, cs) → ∃ e : MapEntry, es[j]? = some e ∧ e.key = k ∧ ValIs (RRel w ro) agg cs e.val := by
  have hO := hr.heap.objs id _ hid
  cases hO with
  | oth _ bl ob h1 h2 h3 =>
    obtain ⟨⟨r, hb'⟩, es, clock, rfl, h4, h5, h6⟩ := h3
    have hev := hr.eval x
    rw [hx] at hev
    generalize he : a.eval x = c at hev
    cases hev with
    | ref _ _ _ hc =>
      have hcv := hc _ hid
      rw [hb'] at h1 hcv
      simp only [blk, Option.some.injEq] at h1
      subst h1
      exact ⟨r, es, clock, hcv, hb', h2, h4, h5, h6⟩

/-- An operand holds a map with these entries. -/
def MapAt (G : Glob) (s : St) (m : Operand) (agg : Bool) (kvs : List (Value × List RV)) : Prop := ∀ E a w β ro, RelAt E G s a w β ro → ∃ (r : Nat) (es : Array MapEntry) (clock : Nat), a.eval m = .map (some r) ∧ w.heap[r]? = some (.map es clock) ∧ es.size = kvs.length ∧ (kvs.map (·.1)).Nodup ∧ ∀ (j : Nat) (k : Value) (cs : List RV), kvs[j]? = some (k, cs) → ∃ e : MapEntry, es[j]? = some e ∧ e.key = k ∧ ValIs (RRel w ro) agg cs e.val
theorem MapAt.own {m : Operand} {id : Nat} {agg : Bool} {kvs : List (Value × List RV)} (hm : aval G s m = .ref id) (hid : hget s.heap id = some (.oth (mapIt agg kvs))) : MapAt G s m agg kvs := fun _ _ _ _ _ hr => by
  obtain ⟨r, es, clock, h1, _, h3, h4, h5, h6⟩ := map_of hr hm hid
  exact ⟨r, es, clock, h1, h3, h4, h5, h6⟩
theorem MapAt.imm {m : Operand} {agg : Bool} {kvs : List (Value × List RV)} (hm : aval G s m = .rv (mapR agg kvs)) : MapAt G s m agg kvs := fun _ a w β ro hr => by
  have hev := hr.eval m
  rw [hm] at hev
  generalize he : a.eval m = c at hev
  cases hev with
  | rv _ _ hx =>
    cases hx with
    | mp _ _ _ r es clock p h1 h2 h3 h4 h5 h6 h7 =>
      refine ⟨r, es, clock, rfl, h2, by simpa using h3, h5, fun j k cs hj => ?_⟩
      have hv : (kvs.map (·.2))[j]? = some cs := by simp [hj]
      obtain ⟨e, e1, e2, e3⟩ := h6 j k cs (by simp [hj]) hv
      refine ⟨e, e1, e2, ?_⟩
      cases agg with
      | true =>
        obtain ⟨c, q1, q2, q3⟩ := e3
        refine ⟨c, q1, q2, fun i x hi => ?_⟩
        rw [q3 i (List.getElem?_eq_some_iff.1 hi).1]
        exact h7 j cs i x hv hi
      | false =>
        obtain ⟨q1, q2⟩ := e3
        match cs, q1, hv with
        | [x], _, hv => exact ⟨x, rfl, by rw [q2]; exact h7 j [x] 0 x hv rfl⟩

/-- What an operand gives as the value of an entry. -/
def valAV (agg : Bool) (cs : List RV) (v : AV) : Prop :=
  match agg with
  | true => v = .agg (cs.map .rv)
  | false => ∃ x, cs = [x] ∧ v = .rv x
theorem valAV_is {w : World} {ro : Nat → Prop} {σ : Heap} {β : Nat → Value} {N : Nat} {agg : Bool} {cs : List RV} {v : AV} {c : Value} (hv : valAV agg cs v) (h : ARel w ro σ β N v c) : ValIs (RRel w ro) agg cs c := by
  cases agg with
  | true =>
    simp only [valAV] at hv
    subst hv
    cases h with
    | agg _ c h1 h2 =>
      refine ⟨c, rfl, by simpa using h1, fun i x hi => ?_⟩
      have := h2 i (.rv x) (by rw [List.getElem?_map, hi]; rfl)
      cases this with
      | rv _ _ h3 => exact h3
  | false =>
    obtain ⟨x, rfl, rfl⟩ := hv
    cases h with
    | rv _ _ h3 => exact ⟨x, rfl, h3⟩
theorem keys_of {es : Array MapEntry} {kvs : List (Value × List RV)} {R : RV → Value → Prop} {agg : Bool} {d : TypeDesc} (hl : es.size = kvs.length) (h : ∀ (j : Nat) (k : Value) (cs : List RV), kvs[j]? = some (k, cs) → ∃ e : MapEntry, es[j]? = some e ∧ e.key = k ∧ ValIs R agg cs e.val) (hk : KeysOk d kvs) :
    ∀ x ∈ es.toList, IsKey d x.key := by
  intro x hx
  obtain ⟨j, hj, rfl⟩ := List.mem_iff_getElem.1 hx
  have hjl : j < kvs.length := by rw [← hl]; simpa using hj
  have h1 : kvs[j]? = some (kvs[j].1, kvs[j].2) := List.getElem?_eq_getElem hjl
  obtain ⟨e, h2, h3, _⟩ := h j _ _ h1
  have h4 : es.toList[j] = e := by
    have : es.toList[j]? = some e := by simpa using h2
    rw [List.getElem?_eq_getElem hj] at this
    exact Option.some.inj this
  rw [h4, h3]
  exact hk _ (List.getElem_mem hjl)

theorem R_mapPut_new {t kt et : TypeId} {d : TypeDesc} (m x v : Operand) (ho : o.op = .mapUpdate t m x v) (ht : P.underlying t = some (.map kt et)) (hd : P.underlying kt = some d) {id : Nat} (hm : aval G s m = .ref id) {agg : Bool} {kvs : List (Value × List RV)}
    (hid : hget s.heap id = some (.oth (mapIt agg kvs))) {k : Value} (hx : aval G s x = .rv (.v k)) (hkey : IsKey d k) (hks : KeysOk d kvs) {cs : List RV} (hv : valAV agg cs (aval G s v)) (hno : ∀ p ∈ kvs, p.1 ≠ k) :
    OpStep P G o s ({ s with heap := hset s.heap id (.oth (mapIt agg (kvs ++ [(k, cs)]))) }.put o.dst .top) := by
  intro E a w ⟨β, ro, hr⟩ K Q hK
  obtain ⟨r, es, clock, h1, h2, h3, h4, h5, h6⟩ := map_of hr hm hid
  have hxe := hr.evalV hx
  have hve := valAV_is hv (hr.eval v)
  have hfind : Instr.findNow d k es.toList 0 = some none := by
    rcases findNow_spec hkey es.toList 0 (keys_of h4 h6 hks) with ⟨g1, _⟩ | ⟨j, e, _, g2, g3⟩
    · exact g1
    · exfalso
      have hj : es[j]? = some e := by simpa using g2
      have hjl : j < kvs.length := by rw [← h4]; exact (Array.getElem?_eq_some_iff.1 hj).1
      obtain ⟨e', g4, g5, _⟩ := h6 j kvs[j].1 kvs[j].2 (List.getElem?_eq_getElem hjl)
      rw [hj] at g4
      cases g4
      exact hno _ (List.getElem_mem hjl) (g5.symm.trans g3)
  unfold Oper.wp
  have hrun : (execOp a.eval o).run P w = .ok .skip { w with heap := w.heap.setIfInBounds r (.map (es.push { key := k, val := a.eval v, born := clock }) (clock + 1)) } := by
    simp [execOp, ho, h1, hxe, Instr.mapUpdate, run_underlying ht, MapKept.run_getObj_map h3, run_checkKey hd hkey, run_findKey hd hfind, MapKept.run_setObj_map _ h3, Result.andThen]
  rw [hrun]
  have hlt := (Array.getElem?_eq_some_iff.1 h3).1
  have hroW : ∀ b, ro b → b ≠ r := fun b hb e => hr.heap.disj b hb ⟨id, _, hid, rfl, by rw [h2, e]; rfl⟩
  have hw := hr.write (w' := { w with heap := w.heap.setIfInBounds r (.map (es.push { key := k, val := a.eval v, born := clock }) (clock + 1)) }) id _ (.oth (mapIt agg (kvs ++ [(k, cs)]))) hid rfl rfl (.inr (.inr ⟨_, _, rfl, rfl⟩)) rfl rfl rfl (by simp)
    (fun j hj hne => by
      have : r ≠ j := fun e => hne (by rw [h2, ← e]; rfl)
      simp [Array.getElem?_setIfInBounds_ne this])
    (.oth _ r (.map (es.push { key := k, val := a.eval v, born := clock }) (clock + 1)) (by rw [h2]; rfl) (by simp [hlt]) ⟨⟨r, h2⟩, _, _, rfl, by simp [h4], by
      rw [List.map_append, List.nodup_append]
      refine ⟨h5, by simp, fun y hy z hz => ?_⟩
      simp only [List.map_cons, List.map_nil, List.mem_singleton] at hz
      subst hz
      obtain ⟨p, hp, rfl⟩ := List.mem_map.1 hy
      exact hno p hp, fun j k' cs' hj => by
      have hkeep : ∀ y c, RRel w ro y c → RRel { w with heap := w.heap.setIfInBounds r (.map (es.push { key := k, val := a.eval v, born := clock }) (clock + 1)) } ro y c := fun y c hy =>
        hy.keep (fun b hb => by have := hroW b hb; simp [Array.getElem?_setIfInBounds_ne (Ne.symm this)]) fun _ h => h
      rcases Nat.lt_or_ge j kvs.length with hjl | hjl
      · rw [List.getElem?_append_left hjl] at hj
        obtain ⟨e, g1, g2, g3⟩ := h6 j k' cs' hj
        exact ⟨e, by rw [Array.getElem?_push_lt (by omega)]; rw [Array.getElem?_eq_getElem (by omega)] at g1; exact g1, g2, g3.mono hkeep⟩
      · rw [List.getElem?_append_right hjl] at hj
        have hj0 : j - kvs.length = 0 := by
          have := (List.getElem?_eq_some_iff.1 hj).1
          simp at this
          omega
        rw [hj0] at hj
        simp only [List.getElem?_cons_zero, Option.some.injEq, Prod.mk.injEq] at hj
        obtain ⟨rfl, rfl⟩ := hj
        exact ⟨_, by rw [show j = es.size from by omega]; exact Array.getElem?_push_size, rfl, hve.mono hkeep⟩⟩)
  exact hK _ _ ⟨β, ro, hw.put o.dst _ _ (.top _)⟩

theorem find_none {es : Array MapEntry} {kvs : List (Value × List RV)} {R : RV → Value → Prop} {agg : Bool} {d : TypeDesc} {k : Value} (hl : es.size = kvs.length) (h : ∀ (j : Nat) (k : Value) (cs : List RV), kvs[j]? = some (k, cs) → ∃ e : MapEntry, es[j]? = some e ∧ e.key = k ∧ ValIs R agg cs e.val) (hks : KeysOk d kvs)
    (hkey : IsKey d k) (hno : ∀ p ∈ kvs, p.1 ≠ k) : Instr.findNow d k es.toList 0 = some none := by
  rcases findNow_spec hkey es.toList 0 (keys_of hl h hks) with ⟨g1, _⟩ | ⟨j, e, _, g2, g3⟩
  · exact g1
  · exfalso
    have hj : es[j]? = some e := by simpa using g2
    have hjl : j < kvs.length := by rw [← hl]; exact (Array.getElem?_eq_some_iff.1 hj).1
    obtain ⟨e', g4, g5, _⟩ := h j kvs[j].1 kvs[j].2 (List.getElem?_eq_getElem hjl)
    rw [hj] at g4
    cases g4
    exact hno _ (List.getElem_mem hjl) (g5.symm.trans g3)
theorem find_some {es : Array MapEntry} {kvs : List (Value × List RV)} {R : RV → Value → Prop} {agg : Bool} {d : TypeDesc} {k : Value} {i : Nat} {cs : List RV} (hl : es.size = kvs.length) (hnd : (kvs.map (·.1)).Nodup) (h : ∀ (j : Nat) (k : Value) (cs : List RV), kvs[j]? = some (k, cs) → ∃ e : MapEntry, es[j]? = some e ∧ e.key = k ∧ ValIs R agg cs e.val) (hks : KeysOk d kvs)
    (hkey : IsKey d k) (hi : kvs[i]? = some (k, cs)) : ∃ e : MapEntry, Instr.findNow d k es.toList 0 = some (some (i, e.val)) ∧ es[i]? = some e ∧ e.key = k ∧ ValIs R agg cs e.val := by
  obtain ⟨e0, q1, q2, q3⟩ := h i k cs hi
  rcases findNow_spec hkey es.toList 0 (keys_of hl h hks) with ⟨_, g1⟩ | ⟨j, e, g1, g2, g3⟩
  · exact absurd q2 (g1 e0 (List.mem_of_getElem? (i := i) (by simpa using q1)))
  · have hj : es[j]? = some e := by simpa using g2
    have hjl : j < kvs.length := by rw [← hl]; exact (Array.getElem?_eq_some_iff.1 hj).1
    obtain ⟨e', g4, g5, _⟩ := h j kvs[j].1 kvs[j].2 (List.getElem?_eq_getElem hjl)
    rw [hj] at g4
    cases g4
    have hij : i = j := by
      have h1 : (kvs.map (·.1))[i]? = some k := by rw [List.getElem?_map, hi]; rfl
      have h2 : (kvs.map (·.1))[j]? = some k := by rw [List.getElem?_map, List.getElem?_eq_getElem hjl]; simp [← g3, g5]
      exact (List.getElem?_inj (List.getElem?_eq_some_iff.1 h1).1 hnd).1 (h1.trans h2.symm)
    subst hij
    rw [hj] at q1
    cases q1
    exact ⟨_, by rw [Nat.zero_add] at g1; exact g1, hj, g3, q3⟩

theorem R_mapPut_old {t kt et : TypeId} {d : TypeDesc} (m x v : Operand) (ho : o.op = .mapUpdate t m x v) (ht : P.underlying t = some (.map kt et)) (hd : P.underlying kt = some d) {id : Nat} (hm : aval G s m = .ref id) {agg : Bool} {kvs : List (Value × List RV)}
    (hid : hget s.heap id = some (.oth (mapIt agg kvs))) {k : Value} (hx : aval G s x = .rv (.v k)) (hkey : IsKey d k) (hks : KeysOk d kvs) {cs cs0 : List RV} (hv : valAV agg cs (aval G s v)) {i : Nat} (hi : kvs[i]? = some (k, cs0)) :
    OpStep P G o s ({ s with heap := hset s.heap id (.oth (mapIt agg (kvs.set i (k, cs)))) }.put o.dst .top) := by
  intro E a w ⟨β, ro, hr⟩ K Q hK
  obtain ⟨r, es, clock, h1, h2, h3, h4, h5, h6⟩ := map_of hr hm hid
  have hxe := hr.evalV hx
  have hve := valAV_is hv (hr.eval v)
  obtain ⟨e0, hfind, he0, hek, _⟩ := find_some h4 h5 h6 hks hkey hi
  unfold Oper.wp
  have hrun : (execOp a.eval o).run P w = .ok .skip { w with heap := w.heap.setIfInBounds r (.map (es.modify i fun e => { e with key := k, val := a.eval v }) clock) } := by
    simp [execOp, ho, h1, hxe, Instr.mapUpdate, run_underlying ht, MapKept.run_getObj_map h3, run_checkKey hd hkey, run_findKey hd hfind, he0, hek, run_keyThatStays hkey, MapKept.run_setObj_map _ h3, Result.andThen]
  rw [hrun]
  have hlt := (Array.getElem?_eq_some_iff.1 h3).1
  have hroW : ∀ b, ro b → b ≠ r := fun b hb e => hr.heap.disj b hb ⟨id, _, hid, rfl, by rw [h2, e]; rfl⟩
  have hw := hr.write (w' := { w with heap := w.heap.setIfInBounds r (.map (es.modify i fun e => { e with key := k, val := a.eval v }) clock) }) id _ (.oth (mapIt agg (kvs.set i (k, cs)))) hid rfl rfl (.inr (.inr ⟨_, _, rfl, rfl⟩)) rfl rfl rfl (by simp)
    (fun j hj hne => by
      have : r ≠ j := fun e => hne (by rw [h2, ← e]; rfl)
      simp [Array.getElem?_setIfInBounds_ne this])
    (.oth _ r (.map (es.modify i fun e => { e with key := k, val := a.eval v }) clock) (by rw [h2]; rfl) (by simp [hlt]) ⟨⟨r, h2⟩, _, _, rfl, by simp [h4], by
      have : (kvs.set i (k, cs)).map (·.1) = kvs.map (·.1) := by
        apply List.ext_getElem?
        intro j
        rw [List.getElem?_map, List.getElem?_map, List.getElem?_set]
        split
        · rename_i e
          subst e
          rw [if_pos (List.getElem?_eq_some_iff.1 hi).1, hi]
          rfl
        · rfl
      rw [this]
      exact h5, fun j k' cs' hj => by
      have hkeep : ∀ y c, RRel w ro y c → RRel { w with heap := w.heap.setIfInBounds r (.map (es.modify i fun e => { e with key := k, val := a.eval v }) clock) } ro y c := fun y c hy =>
        hy.keep (fun b hb => by have := hroW b hb; simp [Array.getElem?_setIfInBounds_ne (Ne.symm this)]) fun _ h => h
      rw [List.getElem?_set] at hj
      by_cases e : i = j
      · subst e
        rw [if_pos rfl, if_pos (List.getElem?_eq_some_iff.1 hi).1] at hj
        simp only [Option.some.injEq, Prod.mk.injEq] at hj
        obtain ⟨rfl, rfl⟩ := hj
        exact ⟨{ e0 with key := k, val := a.eval v }, by simp [Array.getElem?_modify, he0], rfl, hve.mono hkeep⟩
      · rw [if_neg e] at hj
        obtain ⟨e1, g1, g2, g3⟩ := h6 j k' cs' hj
        exact ⟨e1, by rw [Array.getElem?_modify, if_neg e]; exact g1, g2, g3.mono hkeep⟩⟩)
  exact hK _ _ ⟨β, ro, hw.put o.dst _ _ (.top _)⟩

/-- What a lookup gives. -/
def lookR (c : Bool) (v : AV) (b : Bool) : AV :=
  match c with
  | true => .tuple [v, .rv (.v (.bool b))]
  | false => v
/-- The value of an entry as a slot holds it. -/
def getAV (agg : Bool) (cs : List RV) : AV :=
  match agg, cs with
  | true, _ => .agg (cs.map .rv)
  | false, [x] => .rv x
  | false, _ => .top
theorem getAV_rel {w : World} {ro : Nat → Prop} {σ : Heap} {β : Nat → Value} {N : Nat} {agg : Bool} {cs : List RV} {c : Value} (h : ValIs (RRel w ro) agg cs c) : ARel w ro σ β N (getAV agg cs) c := by
  cases agg with
  | true =>
    obtain ⟨arr, rfl, h1, h2⟩ := h
    refine .agg _ arr (by simpa using h1) fun j x hj => ?_
    rw [List.getElem?_map] at hj
    obtain ⟨y, hy, rfl⟩ := Option.map_eq_some_iff.1 hj
    exact .rv _ _ (h2 j y hy)
  | false =>
    obtain ⟨x, rfl, h1⟩ := h
    exact .rv _ _ h1
theorem R_mapGet {t kt et : TypeId} {d : TypeDesc} (c : Bool) (m x : Operand) (ho : o.op = .lookup t m x c) (ht : P.underlying t = some (.map kt et)) (hd : P.underlying kt = some d) {agg : Bool} {kvs : List (Value × List RV)} (hM : MapAt G s m agg kvs)
    {k : Value} (hx : aval G s x = .rv (.v k)) (hkey : IsKey d k) (hks : KeysOk d kvs) {cs : List RV} {i : Nat} (hi : kvs[i]? = some (k, cs)) :
    VStep P G o s (lookR c (getAV agg cs) true) := fun E a w β ro hr => by
  obtain ⟨r, es, clock, h1, h3, h4, h5, h6⟩ := hM E a w β ro hr
  have hxe := hr.evalV hx
  obtain ⟨e0, hfind, he0, hek, hv⟩ := find_some h4 h5 h6 hks hkey hi
  refine ⟨match c with | true => .tuple #[e0.val, .bool true] | false => e0.val, ?_, ?_⟩
  · cases c <;> simp [execOp, ho, h1, hxe, Instr.lookup, run_underlying ht, MapKept.run_getObj_map h3, run_checkKey hd hkey, run_findKey hd hfind, Result.andThen]
  · cases c with
    | false => exact getAV_rel hv
    | true =>
      refine .tuple _ _ rfl fun j y hj => ?_
      match j, hj with
      | 0, hj => simp at hj; subst hj; exact getAV_rel hv
      | 1, hj => simp at hj; subst hj; exact .ofV rfl
      | j + 2, hj => simp at hj
/-- A zero value as a slot holds it. -/
def zAV : Value → AV
  | .agg c => .agg (c.toList.map fun v => .rv (.v v))
  | v => .rv (.v v)
def zOk : Value → Bool
  | .agg c => c.toList.all (·.oneCell')
  | v => v.oneCell'
theorem zAV_rel {w : World} {ro : Nat → Prop} {σ : Heap} {β : Nat → Value} {N : Nat} {z : Value} (h : zOk z = true) : ARel w ro σ β N (zAV z) z := by
  unfold zOk at h
  unfold zAV
  split
  · rename_i c
    refine .agg _ c (by simp) fun j x hj => ?_
    rw [List.getElem?_map] at hj
    obtain ⟨v, hv, rfl⟩ := Option.map_eq_some_iff.1 hj
    have hv' : c[j]? = some v := by simpa using hv
    rw [Array.getD_eq_getD_getElem?, hv']
    exact .rv _ _ (.v _ (List.all_eq_true.1 h v (List.mem_of_getElem? hv)))
  · rename_i hne
    refine .rv _ _ (.v _ ?_)
    split at h
    · rename_i c
      exact absurd rfl (hne c)
    · exact h
theorem R_mapGet_none {t kt et : TypeId} {d : TypeDesc} (c : Bool) (m x : Operand) (ho : o.op = .lookup t m x c) (ht : P.underlying t = some (.map kt et)) (hd : P.underlying kt = some d) {agg : Bool} {kvs : List (Value × List RV)} (hM : MapAt G s m agg kvs)
    {k : Value} (hx : aval G s x = .rv (.v k)) (hkey : IsKey d k) (hks : KeysOk d kvs) (hno : ∀ p ∈ kvs, p.1 ≠ k) {z : Value} (hz : (P.info? et).bind (·.zero) = some z) (hzo : zOk z = true) :
    VStep P G o s (lookR c (zAV z) false) := fun E a w β ro hr => by
  obtain ⟨r, es, clock, h1, h3, h4, h5, h6⟩ := hM E a w β ro hr
  have hxe := hr.evalV hx
  have hfind := find_none h4 h6 hks hkey hno
  have hzr : (zeroValue et).run P w = .ok z w := by
    cases hi : P.info? et with
    | none => rw [hi] at hz; cases hz
    | some i =>
      rw [hi] at hz
      have hz' : i.zero = some z := hz
      simp [zeroValue, typeInfo, hi, hz']
  refine ⟨match c with | true => .tuple #[z, .bool false] | false => z, ?_, ?_⟩
  · cases c <;> simp [execOp, ho, h1, hxe, Instr.lookup, run_underlying ht, MapKept.run_getObj_map h3, run_checkKey hd hkey, run_findKey hd hfind, hzr, Result.andThen]
  · cases c with
    | false => exact zAV_rel hzo
    | true =>
      refine .tuple _ _ rfl fun j y hj => ?_
      match j, hj with
      | 0, hj => simp at hj; subst hj; exact zAV_rel hzo
      | 1, hj => simp at hj; subst hj; exact .ofV rfl
      | j + 2, hj => simp at hj
end
end Go.Av
