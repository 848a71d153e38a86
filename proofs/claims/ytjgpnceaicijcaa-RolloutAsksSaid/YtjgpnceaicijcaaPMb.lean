/- The AV calculus, part B: operands, and a rule for each kind of operation that reads, writes or makes memory. Conditions: none; nothing here speaks of a particular program. -/
import Derived.Test.YtjgpnceaicijcaaPMa
namespace Go.Av
open Go

def aval (G : Glob) (s : St) : Operand → AV
  | .tmp t => s.slots.getD t .top
  | .const v => if v.oneCell' then .rv (.v v) else .top
  | .global g => match G g with
    | some cs => .rv (.ptr cs)
    | none => .top
  | .func f => .fn (.func f) [] []

theorem RelAt.eval {E : Entry} {G : Glob} {s : St} {a : Act} {w : World} {β : Nat → Value} {ro : Nat → Prop} (h : RelAt E G s a w β ro) (x : Operand) :
    ARel w ro s.heap β s.next (aval G s x) (a.eval x) := by
  cases x with
  | tmp t =>
    simp only [aval, Act.eval]
    cases ht : s.slots[t]? with
    | none => simp only [List.getD, ht]; exact .top _
    | some v => simp only [List.getD, ht]; exact h.slot t v ht
  | const v =>
    simp only [aval, Act.eval]
    split
    · exact .rv _ _ (.v _ (by assumption))
    · exact .top _
  | global g =>
    simp only [aval, Act.eval]
    split
    · exact .rv _ _ (h.glob g _ (by assumption))
    · exact .top _
  | func f => exact .fn _ _ _ _ _ rfl rfl (by simp) (by simp)

/-- One operation leads from state s to state s'. -/
def OpStep (P : Program) (G : Glob) (o : Oper) (s s' : St) : Prop :=
  ∀ E a w, Rel E G s a w → ∀ (K : Act → World → Prop) (Q : Exit → Act → World → Prop), (∀ a' w', Rel E G s' a' w' → K a' w') → o.wp P a w K Q

section
variable {P : Program} {G : Glob} {o : Oper} {s : St}

/-- An operation that gives a value and leaves the world alone. -/
theorem OpStep.value {v : AV} (h : ∀ E a w β ro, RelAt E G s a w β ro → ∃ c, (execOp a.eval o).run P w = .ok (.value c) w ∧ ARel w ro s.heap β s.next v c) :
    OpStep P G o s (s.put o.dst v) := by
  intro E a w ⟨β, ro, hr⟩ K Q hK
  obtain ⟨c, hrun, hv⟩ := h E a w β ro hr
  unfold Oper.wp
  rw [hrun]
  exact hK _ _ ⟨β, ro, hr.put o.dst v c hv⟩

/-- The operation gives a value that v stands for, and leaves the world alone. -/
abbrev VStep (P : Program) (G : Glob) (o : Oper) (s : St) (v : AV) : Prop :=
  ∀ E a w β ro, RelAt E G s a w β ro → ∃ c, (execOp a.eval o).run P w = .ok (.value c) w ∧ ARel w ro s.heap β s.next v c
theorem VStep.step {v : AV} (h : VStep P G o s v) : OpStep P G o s (s.put o.dst v) := .value h

theorem R_move (x : Operand) (ho : o.op = .move x) : VStep P G o s (aval G s x) :=
  fun _ a w _ _ hr => ⟨a.eval x, by simp [execOp, ho], hr.eval x⟩
theorem R_assign (x : Operand) (ho : o.op = .assign x) : VStep P G o s (aval G s x) :=
  fun _ a w _ _ hr => ⟨a.eval x, by simp [execOp, ho], hr.eval x⟩

/-- The cells from a pointer on. -/
def acells (σ : Heap) : AV → Option (List AV)
  | .rv (.ptr cs) => some (cs.map .rv)
  | .ptr id off => match hget σ id with
    | some (.box _ cs) => some (cs.drop off)
    | _ => none
  | .eptr id i off => match hget σ id with
    | some (.row false _ _ es) => match es[i]? with
      | some e => some ((e.drop off).map .rv)
      | none => none
    | _ => none
  | _ => none

theorem flatten_at {α : Type} {n : Nat} : ∀ {es : List (List α)}, (∀ e ∈ es, e.length = n) → ∀ {i : Nat} {e : List α}, es[i]? = some e → ∀ j, j < n → es.flatten[i * n + j]? = e[j]?
  | [], _, i, e, h, _, _ => by simp at h
  | x :: r, hn, i, e, h, j, hj => by
    have hx : x.length = n := hn x (by simp)
    cases i with
    | zero =>
      simp at h
      subst h
      simp only [List.flatten_cons, Nat.zero_mul, Nat.zero_add]
      rw [List.getElem?_append_left (by omega)]
    | succ i =>
      simp at h
      have ih := flatten_at (es := r) (fun e he => hn e (by simp [he])) h j hj
      simp only [List.flatten_cons]
      rw [List.getElem?_append_right (by rw [Nat.succ_mul]; omega), ← ih]
      congr 1
      rw [Nat.succ_mul]; omega

theorem length_flatten_of {α : Type} {n : Nat} : ∀ {es : List (List α)}, (∀ e ∈ es, e.length = n) → es.flatten.length = es.length * n
  | [], _ => by simp
  | x :: r, hn => by
    simp only [List.flatten_cons, List.length_append, List.length_cons, Nat.succ_mul]
    rw [length_flatten_of (es := r) (fun e he => hn e (by simp [he])), hn x (by simp)]
    omega

theorem ARel.one {w : World} {ro : Nat → Prop} {σ : Heap} {β : Nat → Value} {N : Nat} {x : RV} {c : Value} (h : ARel w ro σ β N (.rv x) c) : c.oneCell' = true := by
  cases h with
  | rv _ _ h => exact h.one

/-- Reading at a pointer: its cells are there. -/
theorem read_cells {w : World} {ro : Nat → Prop} {σ : Heap} {β : Nat → Value} {N : Nat} (hh : HRel w ro σ β N) {p : AV} {c : Value} {cs : List AV} (hp : acells σ p = some cs) (hc : ARel w ro σ β N p c)
    (hne : cs ≠ []) : ∃ a, c = .pointer (some a) ∧ ∃ f : Nat → Value, ∀ j x, cs[j]? = some x → w.cell? (a.add j) = some (f j) ∧ ARel w ro σ β N x (f j) := by
  cases hc with
  | rv x c hx =>
    cases hx with
    | v x => simp [acells] at hp
    | ptr cs' a f h1 h2 =>
      simp only [acells, Option.some.injEq] at hp
      subst hp
      refine ⟨a, rfl, f, fun j x hj => ?_⟩
      rw [List.getElem?_map] at hj
      cases hcj : cs'[j]? with
      | none => simp [hcj] at hj
      | some y =>
        simp [hcj] at hj
        subst hj
        exact ⟨(h1 j y hcj).2, .rv _ _ (h2 j y hcj)⟩
    | sl => simp [acells] at hp
    | mp => simp [acells] at hp
  | ptr id off c hlt hcc =>
    simp only [acells] at hp
    cases ho : hget σ id with
    | none => simp [ho] at hp
    | some ob =>
      cases ob with
      | row => simp [ho] at hp
      | oth => simp [ho] at hp
      | box t cs' =>
        simp only [ho, Option.some.injEq] at hp
        subst hp
        obtain ⟨b, hb, rfl⟩ := hcc t cs' ho
        have hO := hh.objs id _ ho
        cases hO with
        | box _ _ b' arr hb' hg hsz hcells =>
          rw [hb] at hb'
          simp only [Value.pointer.injEq, Option.some.injEq, Addr.mk.injEq, and_true] at hb'
          subst hb'
          refine ⟨_, rfl, fun j => arr.getD (off + j) undef, fun j x hj => ?_⟩
          rw [List.getElem?_drop] at hj
          have hlt : off + j < cs'.length := by
            rcases Nat.lt_or_ge (off + j) cs'.length with h | h
            · exact h
            · rw [List.getElem?_eq_none h] at hj; cases hj
          refine ⟨?_, hcells _ _ hj⟩
          rw [addLit, cell_of_row w b (off + j) arr t (0, 0) hg]
          have : off + j < arr.size := by omega
          simp [this]
  | eptr id i off c hlt hcc =>
    simp only [acells] at hp
    cases ho : hget σ id with
    | none => simp [ho] at hp
    | some ob =>
      cases ob with
      | box => simp [ho] at hp
      | oth => simp [ho] at hp
      | row z t n es =>
        cases z with
        | true => simp [ho] at hp
        | false =>
          simp only [ho] at hp
          cases hei : es[i]? with
          | none => simp [hei] at hp
          | some e =>
            simp only [hei, Option.some.injEq] at hp
            subst hp
            obtain ⟨b, l, cp, hb, rfl⟩ := hcc false t n es ho
            have hO := hh.objs id _ ho
            cases hO with
            | row _ _ _ xs hown hn hcells =>
              rw [hb] at hown
              obtain ⟨hxlen, hrest⟩ := hown
              rcases hrest with ⟨⟨_, h⟩, hz⟩ | ⟨g, cap, cur, hv, _, hg, hle, hcm, hcs, htake⟩
              · have := (List.getElem?_eq_some_iff.1 hei).1; omega
              · simp only [Value.slice.injEq, Option.some.injEq, Addr.mk.injEq, and_true] at hv
                obtain ⟨rfl, _, _⟩ := hv
                refine ⟨_, rfl, fun j => xs.getD (i * n + (off + j)) undef, fun j x hj => ?_⟩
                rw [List.getElem?_map] at hj
                cases hcj : (e.drop off)[j]? with
                | none => simp [hcj] at hj
                | some y =>
                  simp [hcj] at hj
                  subst hj
                  rw [List.getElem?_drop] at hcj
                  have hel : e.length = n := hn e (List.mem_of_getElem? hei)
                  have hjn : off + j < n := by
                    rcases Nat.lt_or_ge (off + j) e.length with h | h
                    · omega
                    · rw [List.getElem?_eq_none h] at hcj; cases hcj
                  have hfl : es.flatten[i * n + (off + j)]? = some y := by rw [flatten_at hn hei _ hjn]; exact hcj
                  refine ⟨?_, .rv _ _ (hcells _ _ hfl)⟩
                  have hxl : i * n + (off + j) < xs.length := by
                    have h1 : i * n + (off + j) < es.flatten.length := by
                      rcases Nat.lt_or_ge (i * n + (off + j)) es.flatten.length with h | h
                      · exact h
                      · rw [List.getElem?_eq_none h] at hfl; cases hfl
                    rw [length_flatten_of hn] at h1
                    have h2 := hxlen
                    omega
                  rw [addLit, Nat.add_assoc, cell_of_row w b _ cur t (0, 0) hg]
                  have hx : xs[i * n + (off + j)]? = cur[i * n + (off + j)]? := by
                    rw [← htake, List.getElem?_take]
                    have h2 := hxlen
                    rw [if_pos (by omega)]
                    simp
                  rw [← hx]
                  simp [List.getD, List.getElem?_eq_getElem hxl]
  | agg => simp [acells] at hp
  | tuple => simp [acells] at hp
  | sl => simp [acells] at hp
  | fn => simp [acells] at hp
  | ref => simp [acells] at hp
  | top => simp [acells] at hp

/-- The size of a struct's or an array's type; none for other types. -/
def aggSize (P : Program) (t : TypeId) : Option Nat :=
  match P.underlying t with
  | some (.struct _) | some (.array _ _) => (P.info? t).map (·.size)
  | _ => none
/-- Is it a type of one cell? -/
def scalar (P : Program) (t : TypeId) : Bool :=
  match P.underlying t with
  | some (.struct _) | some (.array _ _) | none => false
  | _ => true

theorem run_isAgg_agg {t : TypeId} {n : Nat} (h : aggSize P t = some n) (w : World) : (isAgg t).run P w = .ok true w ∧ (sizeOf t).run P w = .ok n w := by
  unfold aggSize at h
  cases hu : P.underlying t with
  | none => simp [hu] at h
  | some d =>
    cases hi : P.info? t with
    | none => cases d <;> simp [hu, hi] at h
    | some i =>
      cases d <;> simp [hu, hi] at h
      all_goals
        subst h
        exact ⟨by simp [isAgg, run_underlying hu], by simp [sizeOf, typeInfo, hi]⟩
theorem run_isAgg_scalar {t : TypeId} (h : scalar P t = true) (w : World) : (isAgg t).run P w = .ok false w := by
  unfold scalar at h
  cases hu : P.underlying t with
  | none => simp [hu] at h
  | some d => cases d <;> simp [hu] at h <;> simp [isAgg, run_underlying hu]

theorem R_load_agg (t : TypeId) (x : Operand) (ho : o.op = .load t x) {n : Nat} (ht : aggSize P t = some n) {cs : List AV} (hp : acells s.heap (aval G s x) = some cs) (hn : n ≤ cs.length) (h0 : 0 < n) :
    VStep P G o s (.agg (cs.take n)) :=
  fun _ a w β ro hr => by
    obtain ⟨ad, hc, f, hf⟩ := read_cells hr.heap hp (hr.eval x) (by intro h; subst h; simp at hn; omega)
    obtain ⟨h1, h2⟩ := run_isAgg_agg ht w
    have hl := run_loadCells (P := P) w ad n f (fun j hj => (hf j (cs[j]'(by omega)) (by simp)).1)
    refine ⟨.agg ((List.range n).map f).toArray, ?_, .agg _ _ (by simp; omega) fun j y hj => ?_⟩
    · simp [execOp, ho, hc, Instr.loadAt, Instr.sureAddr, loadVar, h1, h2, hl]
    · rw [List.getElem?_take] at hj
      split at hj
      · have := (hf j y hj).2
        rename_i hjn
        simpa [hjn] using this
      · cases hj

theorem R_load (t : TypeId) (x : Operand) (ho : o.op = .load t x) (ht : scalar P t = true) {y : AV} {cs : List AV} (hp : acells s.heap (aval G s x) = some (y :: cs)) :
    VStep P G o s y :=
  fun _ a w β ro hr => by
    obtain ⟨ad, hc, f, hf⟩ := read_cells hr.heap hp (hr.eval x) (by simp)
    have h1 := run_isAgg_scalar ht w
    obtain ⟨hcell, hrel⟩ := hf 0 y rfl
    rw [show ad.add 0 = ad from by simp [Addr.add]] at hcell
    exact ⟨f 0, by simp [execOp, ho, hc, Instr.loadAt, Instr.sureAddr, loadVar, h1, run_load, hcell], hrel⟩

/-- A field's offset in a struct's cells. -/
def fldOff (P : Program) (t : TypeId) (f : Nat) : Option Nat :=
  match P.underlying t with
  | some (.struct fs) => match fs[f]? with
    | some fd => match P.info? fd.type with
      | some i => if i.size = 0 then none else some fd.offset
      | none => none
    | none => none
  | _ => none

def ashift (k : Nat) : AV → Option AV
  | .rv (.ptr cs) => some (.rv (.ptr (cs.drop k)))
  | .ptr id off => some (.ptr id (off + k))
  | .eptr id i off => some (.eptr id i (off + k))
  | _ => none


theorem ashift_rel {w : World} {ro : Nat → Prop} {σ : Heap} {β : Nat → Value} {N : Nat} {p q : AV} {c : Value} {cs : List AV} {k : Nat} (hs : ashift k p = some q) (hp : acells σ p = some cs) (hc : ARel w ro σ β N p c) :
    ∃ a, c = .pointer (some a) ∧ ARel w ro σ β N q (.pointer (some (a.add k))) := by
  cases hc with
  | rv x c hx =>
    cases hx with
    | v x => simp [ashift] at hs
    | ptr cs' a f h1 h2 =>
      simp only [ashift, Option.some.injEq] at hs
      subst hs
      refine ⟨a, rfl, .rv _ _ (.ptr _ _ (fun j => f (k + j)) (fun j x hj => ?_) (fun j x hj => ?_))⟩
      · rw [List.getElem?_drop] at hj
        rw [addB, addAdd]
        exact h1 _ _ hj
      · rw [List.getElem?_drop] at hj
        exact h2 _ _ hj
    | sl => simp [ashift] at hs
    | mp => simp [ashift] at hs
  | ptr id off c hlt hcc =>
    simp only [ashift, Option.some.injEq] at hs
    subst hs
    simp only [acells] at hp
    split at hp
    · rename_i t cs' ho
      obtain ⟨b, hb, rfl⟩ := hcc t cs' ho
      refine ⟨_, rfl, .ptr _ _ _ hlt fun t' cs'' ho' => ⟨b, hb, by rw [addLit]⟩⟩
    · cases hp
  | eptr id i off c hlt hcc =>
    simp only [ashift, Option.some.injEq] at hs
    subst hs
    simp only [acells] at hp
    split at hp
    · rename_i t n es ho
      obtain ⟨b, l, cp, hb, rfl⟩ := hcc false t n es ho
      refine ⟨_, rfl, .eptr _ _ _ _ hlt fun z' t' n' es' ho' => ⟨b, l, cp, hb, ?_⟩⟩
      rw [ho] at ho'
      simp only [Option.some.injEq, AObj.row.injEq] at ho'
      obtain ⟨_, _, rfl, _⟩ := ho'
      rw [addLit, Nat.add_assoc]
    · cases hp
  | agg => simp [ashift] at hs
  | tuple => simp [ashift] at hs
  | sl => simp [ashift] at hs
  | fn => simp [ashift] at hs
  | ref => simp [ashift] at hs
  | top => simp [ashift] at hs

theorem fldOff_run {t f k : Nat} (h : fldOff P t f = some k) (a : Addr) (w : World) : (Instr.fieldAt t (.pointer (some a)) f).run P w = .ok (.pointer (some (a.add k))) w := by
  unfold fldOff at h
  split at h
  · rename_i fs hu
    split at h
    · rename_i fd hf
      split at h
      · rename_i i hi
        split at h
        · cases h
        · rename_i hz
          simp only [Option.some.injEq] at h
          subst h
          simp [Instr.fieldAt, run_underlying hu, hf, Instr.sureAddr, fieldPlace, sizeOf, typeInfo, hi, hz]
      · cases h
    · cases h
  · cases h

theorem R_fieldAddr (t : TypeId) (x : Operand) (f : Nat) (ho : o.op = .fieldAddr t x f) {k : Nat} (hk : fldOff P t f = some k) {cs : List AV} (hp : acells s.heap (aval G s x) = some cs)
    {q : AV} (hq : ashift k (aval G s x) = some q) : VStep P G o s q :=
  fun _ a w β ro hr => by
    obtain ⟨ad, hc, hrel⟩ := ashift_rel hq hp (hr.eval x)
    exact ⟨_, by simp [execOp, ho, hc, fldOff_run hk], hrel⟩

/-- It is surely a pointer. -/
def ptrA (σ : Heap) : AV → Bool
  | .rv (.ptr _) => true
  | .ptr id _ => match hget σ id with
    | some (.box _ _) => true
    | _ => false
  | .eptr id _ _ => match hget σ id with
    | some (.row _ _ _ _) => true
    | _ => false
  | _ => false
def shiftP (k : Nat) : AV → AV
  | .rv (.ptr cs) => .rv (.ptr (cs.drop k))
  | .ptr id off => .ptr id (off + k)
  | .eptr id i off => .eptr id i (off + k)
  | x => x
theorem ptrA_rel {w : World} {ro : Nat → Prop} {σ : Heap} {β : Nat → Value} {N : Nat} {x : AV} {c : Value} (hx : ptrA σ x = true) (h : ARel w ro σ β N x c) : ∃ a, c = .pointer (some a) ∧ ∀ k, ARel w ro σ β N (shiftP k x) (.pointer (some (a.add k))) := by
  cases h with
  | rv x c hr =>
    cases hr with
    | ptr cs a f h1 h2 =>
      refine ⟨a, rfl, fun k => .rv _ _ (.ptr _ _ (fun j => f (k + j)) (fun j x hj => ?_) (fun j x hj => ?_))⟩
      · rw [List.getElem?_drop] at hj
        rw [addB, addAdd]
        exact h1 _ _ hj
      · rw [List.getElem?_drop] at hj
        exact h2 _ _ hj
    | v => simp [ptrA] at hx
    | sl => simp [ptrA] at hx
    | mp => simp [ptrA] at hx
  | ptr id off c hl hp =>
    simp only [ptrA] at hx
    split at hx
    · rename_i t cs hg
      obtain ⟨b, hb, rfl⟩ := hp t cs hg
      refine ⟨_, rfl, fun k => .ptr id (off + k) _ hl fun t' cs' hg' => ?_⟩
      obtain ⟨b', hb', hc'⟩ := hp t' cs' hg'
      rw [hb] at hb'
      simp only [Value.pointer.injEq, Option.some.injEq, Addr.mk.injEq, and_true] at hb'
      subst hb'
      exact ⟨b, hb, by rw [addLit]⟩
    · cases hx
  | eptr id i off c hl hp =>
    simp only [ptrA] at hx
    split at hx
    · rename_i z t n es hg
      obtain ⟨b, l, cp, hb, rfl⟩ := hp z t n es hg
      refine ⟨_, rfl, fun k => .eptr id i (off + k) _ hl fun z' t' n' es' hg' => ?_⟩
      rw [hg] at hg'
      simp only [Option.some.injEq, AObj.row.injEq] at hg'
      obtain ⟨_, _, rfl, _⟩ := hg'
      exact ⟨b, l, cp, hb, by rw [addLit, Nat.add_assoc]⟩
    · cases hx
  | _ => simp [ptrA] at hx
theorem R_fieldAddrP (t : TypeId) (x : Operand) (f : Nat) (ho : o.op = .fieldAddr t x f) {k : Nat} (hk : fldOff P t f = some k) (hp : ptrA s.heap (aval G s x) = true) : VStep P G o s (shiftP k (aval G s x)) :=
  fun _ a w β ro hr => by
    obtain ⟨ad, hc, hrel⟩ := ptrA_rel hp (hr.eval x)
    exact ⟨_, by simp [execOp, ho, hc, fldOff_run hk], hrel k⟩
theorem R_nilCheckP (x : Operand) (ho : o.op = .nilCheck x) (hp : ptrA s.heap (aval G s x) = true) : VStep P G o s (aval G s x) :=
  fun _ a w β ro hr => by
    obtain ⟨ad, hc, _⟩ := ptrA_rel hp (hr.eval x)
    exact ⟨_, by simp [execOp, ho, hc], hc ▸ hr.eval x⟩

end
end Go.Av
