/- The AV calculus, part I: rules for slices and strings, fields and literals. Conditions: none. -/
import Derived.Test.YtjgpnceaicijcaaPMh
namespace Go.Av
open Go

section
variable {P : Program} {G : Glob} {o : Oper} {s : St}

theorem RRel.slLen {w : World} {ro : Nat → Prop} {n : Nat} {es : List (List RV)} {c : Value} (h : RRel w ro (.sl n es) c) : ∃ b cap, c = .slice b es.length cap := by
  cases h with
  | sl _ _ b cap => exact ⟨b, cap, rfl⟩

/-- The length of what a slot holds as a slice; 'm': spelled as wanted. -/
def alen (σ : Heap) : AV → Option Nat
  | .rv (.sl _ es) => some es.length
  | .rv (.v (.slice none 0 0)) => some 0
  | .sl id => match hget σ id with
    | some (.row _ _ _ es) => some es.length
    | _ => none
  | _ => none

theorem alen_rel {w : World} {ro : Nat → Prop} {σ : Heap} {β : Nat → Value} {N : Nat} (hh : HRel w ro σ β N) {x : AV} {c : Value} (h : ARel w ro σ β N x c) {m : Nat} (hm : alen σ x = some m) : ∃ b cap, c = .slice b m cap := by
  cases h with
  | rv x c hx =>
    cases hx with
    | v _ h1 =>
      cases c with
      | slice a l cp =>
        cases a with
        | none =>
          cases l with
          | zero =>
            cases cp with
            | zero => simp [alen] at hm; subst hm; exact ⟨_, _, rfl⟩
            | succ => simp [alen] at hm
          | succ => simp [alen] at hm
        | some => simp [alen] at hm
      | _ => simp [alen] at hm
    | ptr => simp [alen] at hm
    | mp => simp [alen] at hm
    | sl n es b cap c h1 h2 h3 h4 h5 =>
      simp only [alen, Option.some.injEq] at hm
      subst hm
      exact ⟨b, cap, rfl⟩
  | sl id c hl hp =>
    simp only [alen] at hm
    split at hm
    · rename_i z t n es hg
      simp only [Option.some.injEq] at hm
      subst hm
      rw [hp z t n es hg]
      have := hh.objs id _ hg
      cases this with
      | row _ _ _ xs h1 =>
        rcases h1.2 with ⟨⟨_, hv⟩, hz⟩ | ⟨g, cap, cur, hv, _⟩
        · rw [hv, hz]; exact ⟨_, _, rfl⟩
        · rw [hv]; exact ⟨_, _, rfl⟩
      | fro _ _ _ h1 => exact h1.slLen
    · cases hm
  | _ => simp [alen] at hm

def isSlice (P : Program) (t : TypeId) : Bool :=
  match P.underlying t with
  | some (.slice _) => true
  | _ => false

theorem R_len (x : Operand) (t : TypeId) (ho : o.op = .call { callee := .builtin .len, args := #[x], argTypes := #[t] }) (ht : isSlice P t = true) {m : Nat} (hm : alen s.heap (aval G s x) = some m) :
    VStep P G o s (.rv (.v (.int .i64 (m : Int)))) :=
  fun _ a w β ro hr => by
    obtain ⟨b, cap, hc⟩ := alen_rel hr.heap (hr.eval x) hm
    unfold isSlice at ht
    split at ht
    · rename_i e hu
      refine ⟨.int .i64 m, ?_, .ofV rfl⟩
      simp [execOp, ho, resolve, invoke, builtin, hc, Builtin.len_, run_underlying hu, goInt]
    · cases ht

theorem R_len_str (x : Operand) (t : TypeId) (ho : o.op = .call { callee := .builtin .len, args := #[x], argTypes := #[t] }) (ht : P.underlying t = some .string) {b : ByteArray} (hx : aval G s x = .rv (.v (.string b))) :
    VStep P G o s (.rv (.v (.int .i64 (b.size : Int)))) :=
  fun _ a w β ro hr => by
    refine ⟨.int .i64 b.size, ?_, .ofV rfl⟩
    simp [execOp, ho, resolve, invoke, builtin, hr.evalV hx, Builtin.len_, run_underlying ht, goInt]

def arrLen (P : Program) (t : TypeId) : Option Nat :=
  match P.underlying t with
  | some (.array n _) => some n
  | some (.pointer a) => match P.underlying a with
    | some (.array n _) => some n
    | _ => none
  | _ => none
theorem R_len_arr (x : Operand) (t : TypeId) (ho : o.op = .call { callee := .builtin .len, args := #[x], argTypes := #[t] }) {n : Nat} (ht : arrLen P t = some n) :
    VStep P G o s (.rv (.v (.int .i64 (n : Int)))) :=
  fun _ a w β ro hr => by
    refine ⟨.int .i64 n, ?_, .ofV rfl⟩
    unfold arrLen at ht
    split at ht
    · rename_i m e hu
      simp only [Option.some.injEq] at ht
      subst ht
      simp [execOp, ho, resolve, invoke, builtin, Builtin.len_, run_underlying hu, goInt]
    · rename_i p hu
      split at ht
      · rename_i m e hu2
        simp only [Option.some.injEq] at ht
        subst ht
        simp [execOp, ho, resolve, invoke, builtin, Builtin.len_, run_underlying hu, run_underlying hu2, goInt]
      · cases ht
    · cases ht

/-- The size of a slice type's elements. -/
def elemSize (P : Program) (t : TypeId) : Option Nat :=
  match P.underlying t with
  | some (.slice e) => (P.info? e).map (·.size)
  | _ => none

theorem elemSize_run {t n : Nat} (h : elemSize P t = some n) : ∃ e, P.underlying t = some (.slice e) ∧ ∀ w, (sizeOf e).run P w = .ok n w := by
  unfold elemSize at h
  split at h
  · rename_i e hu
    cases hi : P.info? e with
    | none => simp [hi] at h
    | some i =>
      simp [hi] at h
      subst h
      exact ⟨e, hu, fun w => by simp [sizeOf, typeInfo, hi]⟩
  · cases h

/-- The element of a slice at an index: a pointer to it. -/
def aelem (σ : Heap) (n j : Nat) : AV → Option AV
  | .rv (.sl m es) => if m = n then match es[j]? with
    | some e => some (.rv (.ptr e))
    | none => none
    else none
  | .sl id => match hget σ id with
    | some (.row false _ m es) => if m = n ∧ j < es.length then some (.eptr id j 0) else none
    | some (.row true _ m es) => if m = n then match es[j]? with
      | some e => some (.rv (.ptr e))
      | none => none
      else none
    | _ => none
  | _ => none

theorem RRel.elem {w : World} {ro : Nat → Prop} {n : Nat} {es : List (List RV)} {c : Value} (h : RRel w ro (.sl n es) c) {j : Nat} {e : List RV} (hj : es[j]? = some e) :
    ∃ a cap, c = .slice (some a) es.length cap ∧ RRel w ro (.ptr e) (.pointer (some (a.add (j * n)))) := by
  cases h with
  | sl _ _ b cap f h1 h2 h3 h4 h5 =>
    have hjl : j < es.length := (List.getElem?_eq_some_iff.1 hj).1
    obtain ⟨a, rfl, hc⟩ := h4 (by omega)
    have hel : e.length = n := h3 e (List.mem_of_getElem? hj)
    have hin : j * n + n ≤ es.length * n := by rw [← Nat.succ_mul]; exact Nat.mul_le_mul_right n hjl
    refine ⟨a, cap, rfl, .ptr _ _ (fun k => f (j * n + k)) (fun k x hk => ?_) (fun k x hk => ?_)⟩
    · have hkn : k < n := by have := (List.getElem?_eq_some_iff.1 hk).1; omega
      rw [addB, addAdd]
      exact hc _ (by omega)
    · have hkn : k < n := by have := (List.getElem?_eq_some_iff.1 hk).1; omega
      exact h5 _ _ (by rw [flatten_at h3 hj k hkn]; exact hk)

theorem aelem_rel {w : World} {ro : Nat → Prop} {σ : Heap} {β : Nat → Value} {N : Nat} (hh : HRel w ro σ β N) {x : AV} {c : Value} (h : ARel w ro σ β N x c) {n j : Nat} {p : AV} (hp : aelem σ n j x = some p) :
    ∃ a len cap, c = .slice (some a) len cap ∧ j < len ∧ ARel w ro σ β N p (.pointer (some (a.add (j * n)))) := by
  cases h with
  | rv x c hx =>
    cases x with
    | v => simp [aelem] at hp
    | ptr => simp [aelem] at hp
    | mp => simp [aelem] at hp
    | sl m es =>
      simp only [aelem] at hp
      split at hp
      · rename_i hm
        subst hm
        split at hp
        · rename_i e he
          simp only [Option.some.injEq] at hp
          subst hp
          obtain ⟨a, cap, hc, hr⟩ := hx.elem he
          exact ⟨a, es.length, cap, hc, (List.getElem?_eq_some_iff.1 he).1, .rv _ _ hr⟩
        · cases hp
      · cases hp
  | sl id c hl hq =>
    simp only [aelem] at hp
    split at hp
    · rename_i t m es hg
      split at hp
      · rename_i hm
        obtain ⟨rfl, hj⟩ := hm
        simp only [Option.some.injEq] at hp
        subst hp
        have hO := hh.objs id _ hg
        cases hO with
        | row _ _ _ xs h1 =>
          rcases h1.2 with ⟨_, hz⟩ | ⟨g, cap, cur, hv, _⟩
          · omega
          · rw [hq _ _ _ _ hg, hv]
            refine ⟨_, _, _, rfl, hj, .eptr _ _ _ _ hl fun z' t' n' es' hg' => ?_⟩
            rw [hg] at hg'
            simp only [Option.some.injEq, AObj.row.injEq] at hg'
            obtain ⟨_, _, rfl, _⟩ := hg'
            exact ⟨g, _, _, hv, by rw [addLit]; simp⟩
      · cases hp
    · rename_i t m es hg
      split at hp
      · rename_i hm
        subst hm
        split at hp
        · rename_i e he
          simp only [Option.some.injEq] at hp
          subst hp
          have hO := hh.objs id _ hg
          cases hO with
          | fro _ _ _ h1 =>
            obtain ⟨a, cap, hc, hr⟩ := h1.elem he
            exact ⟨a, es.length, cap, by rw [hq _ _ _ _ hg, hc], (List.getElem?_eq_some_iff.1 he).1, .rv _ _ hr⟩
        · cases hp
      · cases hp
    · cases hp
  | _ => simp [aelem] at hp

theorem R_indexAddr (t : TypeId) (x i : Operand) (ho : o.op = .indexAddr t x i) {n : Nat} (ht : elemSize P t = some n) {k : IntKind} {j : Nat} (hi : aval G s i = .rv (.v (.int k (j : Int)))) {p : AV} (hp : aelem s.heap n j (aval G s x) = some p) :
    VStep P G o s p :=
  fun _ a w β ro hr => by
    obtain ⟨ad, len, cap, hc, hj, hrel⟩ := aelem_rel hr.heap (hr.eval x) hp
    obtain ⟨e, hu, hsz⟩ := elemSize_run ht
    refine ⟨_, ?_, hrel⟩
    have hij : (0 : Int) ≤ j ∧ (j : Int) < len := ⟨by omega, by omega⟩
    simp [execOp, ho, hc, hr.evalV hi, Instr.indexAt, asIntOf, run_underlying hu, hj, hsz]

/-- An index into an array behind a pointer. -/
def arrElem (P : Program) (t : TypeId) : Option (Nat × Nat) :=
  match P.underlying t with
  | some (.array n e) => (P.info? e).map fun i => (n, i.size)
  | _ => none
theorem R_indexAddr_arr (t : TypeId) (x i : Operand) (ho : o.op = .indexAddr t x i) {len n : Nat} (ht : arrElem P t = some (len, n)) {k : IntKind} {j : Nat} (hi : aval G s i = .rv (.v (.int k (j : Int)))) (hj : j < len)
    {cs : List AV} (hcs : acells s.heap (aval G s x) = some cs) {p : AV} (hp : ashift (j * n) (aval G s x) = some p) :
    VStep P G o s p :=
  fun _ a w β ro hr => by
    obtain ⟨ad, hc, hrel⟩ := ashift_rel hp hcs (hr.eval x)
    unfold arrElem at ht
    split at ht
    · rename_i m e hu
      cases hie : P.info? e with
      | none => simp [hie] at ht
      | some ie =>
        simp [hie] at ht
        obtain ⟨rfl, rfl⟩ := ht
        refine ⟨_, ?_, hrel⟩
        simp [execOp, ho, hc, hr.evalV hi, Instr.indexAt, asIntOf, run_underlying hu, Instr.sureAddr, hj, sizeOf, typeInfo, hie]
    · cases ht

/-- A byte of a string. -/
theorem R_index_str (t : TypeId) (x i : Operand) (ho : o.op = .index t x i) (ht : P.underlying t = some .string) {k : IntKind} {j : Nat} (hi : aval G s i = .rv (.v (.int k (j : Int)))) {b : ByteArray} (hx : aval G s x = .rv (.v (.string b)))
    {u : UInt8} (hu : b.data.toList[j]? = some u) : VStep P G o s (.rv (.v (.int .u8 (u.toNat : Int)))) :=
  fun _ a w β ro hr => by
    have hj : b[j]? = some u := by
      have h1 : j < b.size := by have := (List.getElem?_eq_some_iff.1 hu).1; simpa using this
      rw [ByteArray.getElem?_lt' b j h1]
      rw [List.getElem?_eq_some_iff] at hu
      obtain ⟨_, h2⟩ := hu
      simp only [Option.some.injEq]
      rw [← h2]
      rfl
    exact ⟨_, by simp [execOp, ho, hr.evalV hx, hr.evalV hi, Instr.index, asIntOf, run_underlying ht, hj], .ofV rfl⟩

/-- A field of a struct value. -/
def fldPart (P : Program) (t : TypeId) (f : Nat) : Option (Nat × Option Nat) :=
  match P.underlying t with
  | some (.struct fs) => match fs[f]? with
    | some fd => if scalar P fd.type then some (fd.offset, none) else match aggSize P fd.type with
      | some n => some (fd.offset, some n)
      | none => none
    | none => none
  | _ => none

theorem R_field (t : TypeId) (x : Operand) (f : Nat) (ho : o.op = .field t x f) {off : Nat} (ht : fldPart P t f = some (off, none)) {cs : List AV} (hx : aval G s x = .agg cs) {v : AV} (hv : cs[off]? = some v) :
    VStep P G o s v :=
  fun _ a w β ro hr => by
    have h := hr.eval x
    rw [hx] at h
    generalize he : a.eval x = c at h
    cases h with
    | agg _ c hs hc =>
      have hlt : off < c.size := by have := (List.getElem?_eq_some_iff.1 hv).1; omega
      unfold fldPart at ht
      split at ht
      · rename_i fs hu
        split at ht
        · rename_i fd hf
          split at ht
          · rename_i hsc
            simp only [Option.some.injEq, Prod.mk.injEq, and_true] at ht
            subst ht
            refine ⟨c[fd.offset], ?_, by simpa [hlt] using hc _ v hv⟩
            simp [execOp, ho, he, Instr.field, run_underlying hu, hf, asAgg, part, run_isAgg_scalar hsc, hlt]
          · split at ht
            · simp at ht
            · cases ht
        · cases ht
      · cases ht

theorem R_field_agg (t : TypeId) (x : Operand) (f : Nat) (ho : o.op = .field t x f) {off n : Nat} (ht : fldPart P t f = some (off, some n)) {cs : List AV} (hx : aval G s x = .agg cs) (hn : off + n ≤ cs.length) :
    VStep P G o s (.agg ((cs.drop off).take n)) :=
  fun _ a w β ro hr => by
    have h := hr.eval x
    rw [hx] at h
    generalize he : a.eval x = c at h
    cases h with
    | agg _ c hs hc =>
      unfold fldPart at ht
      split at ht
      · rename_i fs hu
        split at ht
        · rename_i fd hf
          split at ht
          · simp at ht
          · split at ht
            · rename_i m hag
              simp only [Option.some.injEq, Prod.mk.injEq] at ht
              obtain ⟨rfl, rfl⟩ := ht
              obtain ⟨g1, g2⟩ := run_isAgg_agg hag w
              refine ⟨.agg (c.extract fd.offset (fd.offset + m)), ?_, .agg _ _ (by simp; omega) fun j y hj => ?_⟩
              · simp [execOp, ho, he, Instr.field, run_underlying hu, hf, asAgg, part, g1, g2]
              · rw [List.getElem?_take] at hj
                split at hj
                · rename_i hjm
                  rw [List.getElem?_drop] at hj
                  have := hc _ y hj
                  have h1 : fd.offset + j < c.size := by omega
                  have h2 : j < (c.extract fd.offset (fd.offset + m)).size := by simp; omega
                  simp only [Array.getD, h2, dif_pos]
                  simpa [h1] using this
                · cases hj
            · cases ht
        · cases ht
      · cases ht

/-- Where the parts of a literal go: a struct's fields, an array's elements. -/
def places (P : Program) (t : TypeId) : Option (Nat → Option (Nat × Nat)) :=
  match P.underlying t with
  | some (.struct fs) => if fs.toList.all fun f => (P.info? f.type).isSome then some fun i => (fs.toList.map fun f => (f.offset, ((P.info? f.type).map (·.size)).getD 0))[i]? else none
  | some (.array _ e) => match P.info? e with
    | some inf => some fun i => some (i * inf.size, inf.size)
    | none => none
  | _ => none

/-- Parts laid into cells. -/
def afill (place : Nat → Option (Nat × Nat)) : List AV → List (Nat × AV) → Option (List AV)
  | cs, [] => some cs
  | cs, (i, v) :: rest => match place i with
    | some (off, size) => if (vcells v).length = size ∧ off + size ≤ cs.length then afill place (splice cs off (vcells v)) rest else none
    | none => none

theorem foldl_set_zipIdx (off : Nat) : ∀ (vs : List Value) (k : Nat) (cs : Array Value), off + k + vs.length ≤ cs.size →
    ((vs.zipIdx k).foldl (fun (cs : Array Value) (x : Value × Nat) => cs.setIfInBounds (off + x.2) x.1) cs).toList = splice cs.toList (off + k) vs
  | [], k, cs, h => by simp [splice]
  | v :: vs, k, cs, h => by
    simp only [List.zipIdx_cons, List.foldl_cons]
    rw [foldl_set_zipIdx off vs (k + 1) (cs.setIfInBounds (off + k) v) (by simp at h ⊢; omega)]
    have e := list_seg_step cs.toList (off + k) v vs (by simp at h ⊢; omega)
    simp only [splice, Array.toList_setIfInBounds, ← Nat.add_assoc] at *
    simp only [List.append_assoc] at e
    rw [e]
    simp [Nat.add_assoc]

theorem afill_run {place place' : Nat → Option (Nat × Nat)} (hpl : ∀ i p, place i = some p → place' i = some p) {w : World} {ro : Nat → Prop} {σ : Heap} {β : Nat → Value} {N : Nat} (hh : HRel w ro σ β N) :
    ∀ {ps : List (Nat × AV)} {qs : List (Nat × Value)} {cs ds : List AV} {xs : Array Value}, afill place cs ps = some ds → ps.map (·.1) = qs.map (·.1) → (∀ (j : Nat) (p : Nat × AV) (q : Nat × Value), ps[j]? = some p → qs[j]? = some q → ARel w ro σ β N p.2 q.2 ∧ (vcells p.2).all (cellOkIn σ) = true) →
    xs.size = cs.length → (∀ j x, cs[j]? = some x → ARel w ro σ β N x (xs.getD j undef)) →
    ∃ ys, Instr.fill place' xs qs = some ys ∧ ys.size = ds.length ∧ ∀ j x, ds[j]? = some x → ARel w ro σ β N x (ys.getD j undef)
  | [], qs, cs, ds, xs, hf, hk, _, hs, hx => by
    simp [afill] at hf
    subst hf
    have : qs = [] := by cases qs with
      | nil => rfl
      | cons => simp at hk
    subst this
    exact ⟨xs, by simp [Instr.fill], hs, hx⟩
  | (i, v) :: ps, [], cs, ds, xs, hf, hk, _, hs, hx => by simp at hk
  | (i, v) :: ps, (i', u) :: qs, cs, ds, xs, hf, hk, hr, hs, hx => by
    simp only [List.map_cons, List.cons.injEq] at hk
    obtain ⟨rfl, hk⟩ := hk
    simp only [afill] at hf
    split at hf
    · rename_i off size hp
      split at hf
      · rename_i hc
        obtain ⟨hc1, hc2⟩ := hc
        have hrel : ARel w ro σ β N v u := (hr 0 (i, v) (i, u) rfl rfl).1
        have hall : (vcells v).all (cellOkIn σ) = true := (hr 0 (i, v) (i, u) rfl rfl).2
        obtain ⟨g1, g2, _⟩ := hrel.vcells hall hh
        have hfold := foldl_set_zipIdx off u.cells.toList 0 xs (by simp; omega)
        simp only [Nat.add_zero] at hfold
        have ih := afill_run hpl hh (ps := ps) (qs := qs) (cs := splice cs off (vcells v)) (ds := ds) (xs := (splice xs.toList off u.cells.toList).toArray) hf hk (fun j p q h1 h2 => hr (j + 1) p q h1 h2)
          (by rw [List.size_toArray, splice_length _ _ _ (by simp; omega), splice_length _ _ _ (by omega)]; simpa using hs) (fun j x hj => by
            have := splice_rel (ARel w ro σ β N) undef (cs := cs) (vs := vcells v) (xs := xs.toList) (ys := u.cells.toList) (off := off) (by simp; omega) (by simp; omega) (by omega)
              (fun j x hj => by have := hx j x hj; simpa [Array.getD_eq_getD_getElem?, List.getD] using this) (fun j x hj => by have := g2 j x hj; simpa [Array.getD_eq_getD_getElem?, List.getD] using this) j x hj
            simpa [Array.getD_eq_getD_getElem?, List.getD] using this)
        obtain ⟨ys, h1, h2, h3⟩ := ih
        refine ⟨ys, ?_, h2, h3⟩
        rw [Instr.fill.eq_2, hpl _ _ hp]
        simp only
        rw [if_neg (by simp; omega)]
        have hfa : Array.foldl (fun cs x => match x with
            | (c, j) => cs.setIfInBounds (off + j) c) xs u.cells.zipIdx = (splice xs.toList off u.cells.toList).toArray := by
          apply Array.ext'
          rw [← hfold, ← Array.foldl_toList]
          simp
        rw [hfa]
        exact h1
      · cases hf
    · cases hf


theorem run_places (w : World) : ∀ l : List Field, (l.all fun f => (P.info? f.type).isSome) = true → (l.mapM (fun f => do
    let n ← sizeOf f.type
    pure (f.offset, n) : Field → Sem (Nat × Nat))).run P w = .ok (l.map fun f => (f.offset, ((P.info? f.type).map (·.size)).getD 0)) w
  | [], _ => by simp
  | f :: r, h => by
    simp only [List.all_cons, Bool.and_eq_true] at h
    have ih := run_places w r h.2
    cases hi : P.info? f.type with
    | none => simp [hi] at h
    | some inf =>
      have h1 : (sizeOf f.type).run P w = .ok inf.size w := by simp [sizeOf, typeInfo, hi]
      simp only [List.mapM_cons, Sem.run_bind, h1, Result.andThen_ok, Sem.run_pure, ih]
      simp [hi]

/-- The value of a literal: its zero cells, the parts laid over them. -/
theorem run_build {t : TypeId} {pl : Nat → Option (Nat × Nat)} (hp : places P t = some pl) {zs : List Value} (hz : zeroCells P t = some zs) {parts : Array (Nat × Value)} {ys : Array Value} (hf : Instr.fill pl zs.toArray parts.toList = some ys) (w : World) :
    (Instr.build t parts).run P w = .ok (.agg ys) w := by
  obtain ⟨z, hrz, hzc, _⟩ := run_zero hz w
  unfold places at hp
  split at hp
  · rename_i fs hu
    split at hp
    · rename_i hall
      simp only [Option.some.injEq] at hp
      subst hp
      have h1 := run_places w fs.toList hall
      have h2 : (fs.mapM (fun f => do
          let n ← sizeOf f.type
          pure (f.offset, n) : Field → Sem (Nat × Nat))).run P w = .ok (fs.toList.map fun f => (f.offset, ((P.info? f.type).map (·.size)).getD 0)).toArray w := by
        rw [Array.mapM_eq_mapM_toList]
        simp only [Sem.run_map, h1]
        rfl
      simp only [Instr.build, Sem.run_bind, hrz, Result.andThen_ok, run_underlying hu, h2, hzc]
      have h3 : (fun (x : Nat) => (fs.toList.map fun f => (f.offset, ((P.info? f.type).map (·.size)).getD 0)).toArray[x]?) = (fun (i : Nat) => (fs.toList.map fun f => (f.offset, ((P.info? f.type).map (·.size)).getD 0))[i]?) := by
        funext i; simp
      rw [h3, hf]
      rfl
    · cases hp
  · rename_i n e hu
    split at hp
    · rename_i inf hi
      simp only [Option.some.injEq] at hp
      subst hp
      have h1 : (sizeOf e).run P w = .ok inf.size w := by simp [sizeOf, typeInfo, hi]
      simp only [Instr.build, Sem.run_bind, hrz, Result.andThen_ok, run_underlying hu, h1, hzc, hf]
      rfl
    · cases hp
  · cases hp

theorem zs_rel {w : World} {ro : Nat → Prop} {σ : Heap} {β : Nat → Value} {N : Nat} {zs : List Value} (hall : zs.all Value.oneCell' = true) : ∀ (j : Nat) (x : AV), (zs.map fun z => AV.rv (.v z))[j]? = some x → ARel w ro σ β N x (zs.toArray.getD j undef) := by
  intro j x hj
  rw [List.getElem?_map] at hj
  cases hzj : zs[j]? with
  | none => simp [hzj] at hj
  | some y =>
    simp [hzj] at hj
    subst hj
    have : y.oneCell' = true := by
      rw [List.all_eq_true] at hall
      exact hall y (List.mem_of_getElem? hzj)
    simpa [hzj] using ARel.rv (w := w) (ro := ro) (σ := σ) (β := β) (N := N) _ _ (.v y this)

theorem parts_rel {E : Entry} {a : Act} {w : World} {β : Nat → Value} {ro : Nat → Prop} (hr : RelAt E G s a w β ro) {parts : Array (Nat × Operand)} {ps : List (Nat × AV)} (hps : parts.toList.map (fun p => (p.1, aval G s p.2)) = ps)
    (hall : ps.all (fun p => (vcells p.2).all (cellOkIn s.heap)) = true) :
    ps.map (·.1) = (parts.map fun p => (p.1, a.eval p.2)).toList.map (·.1) ∧
    ∀ (j : Nat) (p : Nat × AV) (q : Nat × Value), ps[j]? = some p → (parts.map fun p => (p.1, a.eval p.2)).toList[j]? = some q → ARel w ro s.heap β s.next p.2 q.2 ∧ (vcells p.2).all (cellOkIn s.heap) = true := by
  subst hps
  refine ⟨by simp, fun j p q h1 h2 => ?_⟩
  have hp : (vcells p.2).all (cellOkIn s.heap) = true := by
    rw [List.all_eq_true] at hall
    exact hall p (List.mem_of_getElem? h1)
  rw [List.getElem?_map] at h1
  rw [Array.toList_map, List.getElem?_map] at h2
  cases hj : parts.toList[j]? with
  | none => simp [hj] at h1
  | some y =>
    simp [hj] at h1 h2
    subst h1 h2
    exact ⟨hr.eval _, hp⟩

theorem R_build (t : TypeId) (parts : Array (Nat × Operand)) (ho : o.op = .build t parts) {pl : Nat → Option (Nat × Nat)} (hp : places P t = some pl) {zs : List Value} (hz : zeroCells P t = some zs) (hzall : zs.all Value.oneCell' = true)
    {ps : List (Nat × AV)} (hps : parts.toList.map (fun p => (p.1, aval G s p.2)) = ps) (hall : ps.all (fun p => (vcells p.2).all (cellOkIn s.heap)) = true) {ds : List AV} (hf : afill pl (zs.map fun z => .rv (.v z)) ps = some ds) :
    VStep P G o s (.agg ds) :=
  fun _ a w β ro hr => by
    obtain ⟨h1, h2⟩ := parts_rel hr hps hall
    obtain ⟨ys, g1, g2, g3⟩ := afill_run (place' := pl) (fun _ _ h => h) hr.heap hf h1 h2 (xs := zs.toArray) (by simp) (zs_rel hzall)
    refine ⟨.agg ys, ?_, .agg _ _ g2 g3⟩
    have hb := run_build (P := P) hp hz g1 w
    simp only [execOp, ho, Sem.run_bind]
    erw [hb]
    rfl
end
end Go.Av
