/- The AV calculus, part J: slices that the call makes: literals, make, append. Conditions: none. -/
import Derived.Test.YtjgpnceaicijcaaPMi
namespace Go.Av
open Go

mutual
/-- Every reference to block id forgotten. -/
def killA (id : Nat) : AV → AV
  | .rv x => .rv x
  | .agg cs => .agg (killL id cs)
  | .tuple cs => .tuple (killL id cs)
  | .ptr k off => if k = id then .top else .ptr k off
  | .eptr k i off => if k = id then .top else .eptr k i off
  | .sl k => if k = id then .top else .sl k
  | .fn f p q => .fn f (killL id p) (killL id q)
  | .ref k => if k = id then .top else .ref k
  | .top => .top
def killL (id : Nat) : List AV → List AV
  | [] => []
  | x :: r => killA id x :: killL id r
end
def killH (id : Nat) : Heap → Heap
  | [] => []
  | (k, .box t cs) :: r => if k = id then killH id r else (k, .box t (killL id cs)) :: killH id r
  | (k, .row z t n es) :: r => if k = id then killH id r else (k, .row z t n es) :: killH id r
  | (k, .oth Φ) :: r => if k = id then killH id r else (k, .oth Φ) :: killH id r
def killO (id : Nat) : AObj → AObj
  | .box t cs => .box t (killL id cs)
  | .row z t n es => .row z t n es
  | .oth Φ => .oth Φ

theorem killL_length (d : Nat) : ∀ (l : List AV), (killL d l).length = l.length
  | [] => rfl
  | x :: r => by simp [killL, killL_length d r]
theorem killL_at (d : Nat) : ∀ {l : List AV} {j : Nat} {x : AV}, (killL d l)[j]? = some x → ∃ y, l[j]? = some y ∧ x = killA d y
  | [], j, x, h => by simp [killL] at h
  | y :: r, j, x, h => by
    cases j with
    | zero => simp [killL] at h; exact ⟨y, by simp, h.symm⟩
    | succ j => simp [killL] at h; simpa using killL_at d h
theorem hget_killH (id : Nat) : ∀ (σ : Heap) (k : Nat), hget (killH id σ) k = if k = id then none else (hget σ k).map (killO id)
  | [], k => by simp [killH, hget]
  | (j, .box t cs) :: r, k => by
    have ih := hget_killH id r k
    by_cases hj : j = id
    · subst hj
      by_cases hk : k = j
      · subst hk; simpa [killH] using ih
      · simp [killH, hget, ih, hk, Ne.symm hk]
    · by_cases hk : j = k
      · subst hk; simp [killH, hget, hj, killO]
      · simp [killH, hget, hj, hk, ih]
  | (j, .row z t n es) :: r, k => by
    have ih := hget_killH id r k
    by_cases hj : j = id
    · subst hj
      by_cases hk : k = j
      · subst hk; simpa [killH] using ih
      · simp [killH, hget, ih, hk, Ne.symm hk]
    · by_cases hk : j = k
      · subst hk; simp [killH, hget, hj, killO]
      · simp [killH, hget, hj, hk, ih]
  | (j, .oth Φ) :: r, k => by
    have ih := hget_killH id r k
    by_cases hj : j = id
    · subst hj
      by_cases hk : k = j
      · subst hk; simpa [killH] using ih
      · simp [killH, hget, ih, hk, Ne.symm hk]
    · by_cases hk : j = k
      · subst hk; simp [killH, hget, hj, killO]
      · simp [killH, hget, hj, hk, ih]

theorem killO_live (id : Nat) (o : AObj) : (killO id o).live = o.live := by cases o <;> rfl

section
variable {P : Program} {G : Glob} {s : St} {E : Entry} {a : Act} {w w' : World} {β : Nat → Value} {ro : Nat → Prop}

/-- An own row is replaced, perhaps in another block; what else referred to it says nothing any more. -/
theorem RelAt.renew (h : RelAt E G s a w β ro) (id : Nat) (hb : s.base ≤ id) (hlt : id < s.next) {t0 : TypeId} {n0 : Nat} {es0 : List (List RV)} (hid : hget s.heap id = some (.row false t0 n0 es0)) (o : AObj) (val : Value)
    (hos : w'.os = w.os) (htape : w'.tape = w.tape) (hout : w'.output = w.output) (hsz : w.heap.size ≤ w'.heap.size) (hw : ∀ b, b < w.heap.size → blk (β id) ≠ some b → w'.heap[b]? = w.heap[b]?)
    (hblk : ∀ b, blk val = some b → blk (β id) = some b ∨ w.heap.size ≤ b) (_hlive : o.live = true)
    (hO : ORel w' ro ((id, o) :: killH id s.heap) (upd β id val) s.next id o) :
    RelAt E G ⟨killL id s.slots, (id, o) :: killH id s.heap, s.next, s.base⟩ a w' (upd β id val) ro := by
  have hro : ∀ b, ro b → w'.heap[b]? = w.heap[b]? := fun b hr => hw b (h.heap.lt b hr) fun hb => h.heap.disj b hr ⟨id, _, hid, rfl, hb⟩
  have hg : ∀ k, k ≠ id → hget ((id, o) :: killH id s.heap) k = (hget s.heap k).map (killO id) := fun k hk => by simp [hget, Ne.symm hk, hget_killH, hk]
  have hgi : hget ((id, o) :: killH id s.heap) id = some o := by simp [hget]
  have key : ∀ x c, ARel w ro s.heap β s.next x c → ARel w' ro ((id, o) :: killH id s.heap) (upd β id val) s.next (killA id x) c := by
    intro x c hx
    induction hx with
    | rv x c hx => exact .rv x c (hx.keep hro fun _ h => h)
    | agg cs c hs _ ih =>
      refine .agg _ c (by rw [killL_length]; exact hs) fun j x hj => ?_
      obtain ⟨y, hy, rfl⟩ := killL_at id hj
      exact ih j y hy
    | tuple cs c hs _ ih =>
      refine .tuple _ c (by rw [killL_length]; exact hs) fun j x hj => ?_
      obtain ⟨y, hy, rfl⟩ := killL_at id hj
      exact ih j y hy
    | ptr k off c hl hp =>
      simp only [killA]
      split
      · exact .top _
      · rename_i hk
        refine .ptr k off c hl fun t cs hgk => ?_
        rw [upd_ne _ _ hk]
        rw [hg k hk] at hgk
        cases hs : hget s.heap k with
        | none => simp [hs] at hgk
        | some p =>
          cases p with
          | box t' cs' => exact hp t' cs' hs
          | row => simp [hs, killO] at hgk
          | oth => simp [hs, killO] at hgk
    | eptr k i off c hl hp =>
      simp only [killA]
      split
      · exact .top _
      · rename_i hk
        refine .eptr k i off c hl fun z t n es hgk => ?_
        rw [upd_ne _ _ hk]
        rw [hg k hk] at hgk
        cases hs : hget s.heap k with
        | none => simp [hs] at hgk
        | some p =>
          cases p with
          | box t' cs' => simp [hs, killO] at hgk
          | oth => simp [hs, killO] at hgk
          | row z' t' n' es' =>
            simp only [hs, Option.map_some, killO, Option.some.injEq, AObj.row.injEq] at hgk
            obtain ⟨rfl, rfl, rfl, rfl⟩ := hgk
            exact hp _ _ _ _ hs
    | sl k c hl hp =>
      simp only [killA]
      split
      · exact .top _
      · rename_i hk
        refine .sl k c hl fun z t n es hgk => ?_
        rw [upd_ne _ _ hk]
        rw [hg k hk] at hgk
        cases hs : hget s.heap k with
        | none => simp [hs] at hgk
        | some p =>
          cases p with
          | box t' cs' => simp [hs, killO] at hgk
          | oth => simp [hs, killO] at hgk
          | row z' t' n' es' => exact hp _ _ _ _ hs
    | fn f p q c d h1 h2 _ _ ih1 ih2 =>
      refine .fn f _ _ c d (by rw [killL_length]; exact h1) (by rw [killL_length]; exact h2) (fun j x hj => ?_) (fun j x hj => ?_)
      · obtain ⟨y, hy, rfl⟩ := killL_at id hj
        exact ih1 j y hy
      · obtain ⟨y, hy, rfl⟩ := killL_at id hj
        exact ih2 j y hy
    | ref k c hl hp =>
      simp only [killA]
      split
      · exact .top _
      · rename_i hk
        refine .ref k c hl fun Φ hgk => ?_
        rw [upd_ne _ _ hk]
        rw [hg k hk] at hgk
        cases hs : hget s.heap k with
        | none => simp [hs] at hgk
        | some p =>
          cases p with
          | box => simp [hs, killO] at hgk
          | row => simp [hs, killO] at hgk
          | oth Φ' => exact hp Φ' hs
    | top c => exact .top c
  have old : ∀ k p, k ≠ id → hget ((id, o) :: killH id s.heap) k = some p → ∃ q, hget s.heap k = some q ∧ p = killO id q := by
    intro k p hk hgk
    rw [hg k hk] at hgk
    cases hs : hget s.heap k with
    | none => simp [hs] at hgk
    | some q => simp [hs] at hgk; exact ⟨q, rfl, hgk.symm⟩
  refine ⟨h.defers, by simpa [killL_length] using h.size, fun i x hx => ?_, ⟨fun k p hk => ?_, fun k k' p p' b hk hk' hp hp' hbk hbk' => ?_, fun b hr => ?_, fun b hr => Nat.lt_of_lt_of_le (h.heap.lt b hr) hsz⟩,
    h.glob.keep hro fun _ h => h, ?_, h.base⟩
  · obtain ⟨y, hy, rfl⟩ := killL_at id hx
    exact key _ _ (h.slot i y hy)
  · by_cases hki : k = id
    · subst hki
      rw [hgi] at hk
      simp only [Option.some.injEq] at hk
      subst hk
      exact hO
    · obtain ⟨q, hq, rfl⟩ := old k p hki hk
      have hoo := h.heap.objs k q hq
      have hne : q.live = true → ∀ b, blk (β k) = some b → w'.heap[b]? = w.heap[b]? := fun hl b hbk =>
        hw b (hoo.blkLt hl hbk) fun hbi => hki (h.heap.inj k id q _ b hq hid hl rfl hbk hbi)
      cases hoo with
      | box t cs b arr h1 h2 h3 h4 =>
        refine .box t _ b arr (by rw [upd_ne _ _ hki]; exact h1) ((hne rfl b (by rw [h1]; rfl)).trans h2) (by rw [killL_length]; exact h3) fun j x hj => ?_
        obtain ⟨y, hy, rfl⟩ := killL_at id hj
        exact key _ _ (h4 j y hy)
      | row t n es xs h1 h2 h3 => exact .row t n es xs (by rw [upd_ne _ _ hki]; exact h1.keep fun b hb => hne rfl b hb) h2 fun j x hj => (h3 j x hj).keep hro fun _ h => h
      | fro t n es h1 => exact .fro t n es (by rw [upd_ne _ _ hki]; exact h1.keep hro fun _ h => h)
      | oth Φ b o h1 h2 h3 => exact .oth Φ b o (by rw [upd_ne _ _ hki]; exact h1) ((hne rfl b h1).trans h2) (by rw [upd_ne _ _ hki]; exact Φ.mono _ _ _ _ (fun x c h => h.keep hro fun _ h => h) h3)
  · by_cases hki : k = id
    · by_cases hki' : k' = id
      · rw [hki, hki']
      · subst hki
        rw [upd_same] at hbk
        rw [upd_ne _ _ hki'] at hbk'
        obtain ⟨q, hq, rfl⟩ := old k' p' hki' hk'
        rw [killO_live] at hp'
        have h2 := (h.heap.objs k' q hq).blkLt hp' hbk'
        rcases hblk b hbk with h1 | h1
        · exact (h.heap.inj k' k q _ b hq hid hp' rfl hbk' h1).symm
        · omega
    · obtain ⟨q, hq, rfl⟩ := old k p hki hk
      rw [killO_live] at hp
      rw [upd_ne _ _ hki] at hbk
      by_cases hki' : k' = id
      · subst hki'
        rw [upd_same] at hbk'
        have h2 := (h.heap.objs k q hq).blkLt hp hbk
        rcases hblk b hbk' with h1 | h1
        · exact h.heap.inj k k' q _ b hq hid hp rfl hbk h1
        · omega
      · obtain ⟨q', hq', rfl⟩ := old k' p' hki' hk'
        rw [killO_live] at hp'
        rw [upd_ne _ _ hki'] at hbk'
        exact h.heap.inj k k' q q' b hq hq' hp hp' hbk hbk'
  · rintro ⟨k, p, hk, hp, hbk⟩
    by_cases hki : k = id
    · subst hki
      rw [upd_same] at hbk
      rcases hblk b hbk with h1 | h1
      · exact h.heap.disj b hr ⟨k, _, hid, rfl, h1⟩
      · have := h.heap.lt b hr; omega
    · obtain ⟨q, hq, rfl⟩ := old k p hki hk
      rw [killO_live] at hp
      rw [upd_ne _ _ hki] at hbk
      exact h.heap.disj b hr ⟨k, q, hq, hp, hbk⟩
  · have t := h.trans
    refine ⟨hos.trans t.os, htape.trans t.tape, hout.trans t.output, Nat.le_trans t.size hsz, fun b hbl hno => ?_, t.roSub, t.roKeep, ?_, fun k hk p hgk => ?_, fun k p hgk => ?_, t.le⟩
    · by_cases hbi : blk (β id) = some b
      · rcases t.ownSub b ⟨id, _, hid, rfl, hbi⟩ with hc | hc
        · exact absurd hc hno
        · omega
      · rw [hw b (Nat.lt_of_lt_of_le hbl t.size) hbi]
        exact t.frame b hbl hno
    · rintro b ⟨k, p, hk, hp, hbk⟩
      by_cases hki : k = id
      · subst hki
        rw [upd_same] at hbk
        rcases hblk b hbk with h1 | h1
        · exact t.ownSub b ⟨k, _, hid, rfl, h1⟩
        · exact .inr (Nat.le_trans t.size h1)
      · obtain ⟨q, hq, rfl⟩ := old k p hki hk
        rw [killO_live] at hp
        rw [upd_ne _ _ hki] at hbk
        exact t.ownSub b ⟨k, q, hq, hp, hbk⟩
    · have hki : k ≠ id := by have := h.base; omega
      obtain ⟨q, hq, rfl⟩ := old k p hki hgk
      rw [upd_ne _ _ hki]
      exact t.old k hk q hq
    · by_cases hki : k = id
      · subst hki; exact hlt
      · obtain ⟨q, hq, rfl⟩ := old k p hki hgk
        exact t.new k q hq

/-- Cells cut into elements. -/
def chunk {α : Type} (n : Nat) : Nat → List α → List (List α)
  | 0, _ => []
  | k + 1, l => l.take n :: chunk n k (l.drop n)

theorem chunk_length {α : Type} (n : Nat) : ∀ (k : Nat) (l : List α), (chunk n k l).length = k
  | 0, _ => rfl
  | k + 1, l => by simp [chunk, chunk_length n k]
theorem chunk_all {α : Type} (n : Nat) : ∀ (k : Nat) (l : List α), l.length = k * n → ∀ e ∈ chunk n k l, e.length = n
  | 0, _, _, e, he => by simp [chunk] at he
  | k + 1, l, h, e, he => by
    rw [Nat.succ_mul] at h
    simp only [chunk, List.mem_cons] at he
    rcases he with rfl | he
    · simp; omega
    · exact chunk_all n k (l.drop n) (by simp; omega) e he
theorem chunk_flatten {α : Type} (n : Nat) : ∀ (k : Nat) (l : List α), l.length = k * n → (chunk n k l).flatten = l
  | 0, l, h => by
    have : l = [] := List.eq_nil_of_length_eq_zero (by simpa using h)
    simp [chunk, this]
  | k + 1, l, h => by
    rw [Nat.succ_mul] at h
    simp only [chunk, List.flatten_cons]
    rw [chunk_flatten n k (l.drop n) (by simp; omega), List.take_append_drop]

theorem RowIs.of_owns {w : World} {t : TypeId} {n : Nat} {v : Value} {len : Nat} {xs : List Value} (h : w.ownsRow 0 t n v len xs) : RowIs w t n v len xs := by
  obtain ⟨hl, hr⟩ := h
  refine ⟨hl, ?_⟩
  rcases hr with ⟨h1, h2⟩ | ⟨g, cap, cur, hv, _, hg, hle, hcm, hcs, ht⟩
  · exact .inl ⟨⟨none, h1⟩, h2⟩
  · by_cases hc : cap = 0
    · subst hc
      have : len = 0 := by omega
      subst this
      exact .inl ⟨⟨_, hv⟩, rfl⟩
    · exact .inr ⟨g, cap, cur, hv, by omega, hg, hle, hcm, hcs, ht⟩

/-- The operation makes a new row and gives its slice. -/
def NRow (P : Program) (G : Glob) (o : Oper) (s : St) (t : TypeId) (n : Nat) (es : List (List RV)) : Prop :=
  (∀ e ∈ es, e.length = n) ∧ ∀ E a w β ro, RelAt E G s a w β ro → ∃ v xs w', (execOp a.eval o).run P w = .ok (.value v) w' ∧ w'.ownsRow 0 t n v es.length xs ∧ w.grownBy w' none ∧ (∀ b, blk v = some b → w.heap.size ≤ b) ∧
      ∀ j x, es.flatten[j]? = some x → RRel w ro x (xs.getD j undef)

/-- A new row and its slice, put into the slot. -/
theorem OpStep.newRow {o : Oper} {t : TypeId} {n : Nat} {es : List (List RV)} (hb : s.base ≤ s.next) (hh : NRow P G o s t n es) :
    OpStep P G o s ({ s with heap := (s.next, .row false t n es) :: s.heap, next := s.next + 1 }.put o.dst (.sl s.next)) := by
  obtain ⟨hn, h⟩ := hh
  intro E a w ⟨β, ro, hr⟩ K Q hK
  obtain ⟨v, xs, w', hrun, hown, hgr, hblk, hcells⟩ := h E a w β ro hr
  unfold Oper.wp
  rw [hrun]
  have hnone : hget s.heap s.next = none := by
    cases hg : hget s.heap s.next with
    | none => rfl
    | some p => have := hr.trans.new _ _ hg; omega
  have hw : ∀ b, b < w.heap.size → w'.heap[b]? = w.heap[b]? := fun b hb => hgr.block b hb (by simp)
  have hro : ∀ b, ro b → w'.heap[b]? = w.heap[b]? := fun b hb => hw b (hr.heap.lt b hb)
  have hnew : RelAt E G { s with heap := (s.next, .row false t n es) :: s.heap, next := s.next + 1 } a w' (upd β s.next v) ro := by
    refine hr.new s.next hnone hb (Nat.le_refl _) _ v hgr.os hgr.tape hgr.output hgr.size hw hblk rfl ?_
    exact .row t n es xs (by rw [upd_same]; exact .of_owns hown) hn fun j x hj => (hcells j x hj).keep hro fun _ h => h
  refine hK _ _ ⟨_, ro, hnew.put o.dst _ _ ?_⟩
  exact .sl _ _ (Nat.lt_succ_self _) fun z t' n' es' _ => (upd_same _ _ _).symm

/-- A slice literal. -/
theorem R_buildSlice {o : Oper} (t : TypeId) (len : Nat) (parts : Array (Nat × Operand)) (ho : o.op = .buildSlice t len parts) {e n : Nat} (hu : P.underlying t = some (.slice e)) (hsz : (P.info? e).map (·.size) = some n)
    {zs : List Value} (hz : zeroCells P e = some zs) (hzall : zs.all Value.oneCell' = true) (hzl : zs.length = n) (hlen : 0 < len * n ∧ len * n ≤ 16777216)
    {ps : List (Nat × AV)} (hps : parts.toList.map (fun p => (p.1, aval G s p.2)) = ps) (hall : ps.all (fun p => (vcells p.2).all (cellOkIn s.heap)) = true)
    {ds : List AV} (hf : afill (fun i => some (i * n, n)) ((List.replicate len (zs.map fun z => AV.rv (.v z))).flatten) ps = some ds) {rs : List RV} (hrs : rvs ds = some rs) :
    NRow P G o s e n (chunk n len rs) := by
  have hds : ds.length = len * n := by
    have : ∀ (ps : List (Nat × AV)) (cs ds : List AV), afill (fun i => some (i * n, n)) cs ps = some ds → ds.length = cs.length := by
      intro ps
      induction ps with
      | nil => intro cs ds h; simp [afill] at h; rw [h]
      | cons p r ih =>
        intro cs ds h
        obtain ⟨i, v⟩ := p
        simp only [afill] at h
        split at h
        · rename_i hc
          rw [ih _ _ h, splice_length _ _ _ (by omega)]
        · cases h
    rw [this ps _ _ hf, length_flatten_of (n := n) (fun e he => by rw [List.mem_replicate] at he; rw [he.2]; simpa using hzl)]
    simp
  have hrl : rs.length = len * n := by rw [← hds, rvs_map hrs]; simp
  refine ⟨chunk_all n len rs hrl, fun E a w β ro hr => ?_⟩
  obtain ⟨h1, h2⟩ := parts_rel hr hps hall
  obtain ⟨z, hrz, hzc, _⟩ := run_zero hz w
  have hcells : (List.replicate len (zs.map fun z => AV.rv (.v z))).flatten.length = len * n := by
    rw [length_flatten_of (n := n) (fun e he => by rw [List.mem_replicate] at he; rw [he.2]; simpa using hzl)]; simp
  have hzsz : zs.toArray.size = n := by simpa using hzl
  have hnpos : 0 < n := by
    rcases Nat.eq_zero_or_pos n with h | h
    · rw [h] at hlen; simp at hlen
    · exact h
  obtain ⟨ys, g1, g2, g3⟩ := afill_run (place' := fun i => some (i * n, n)) (fun _ _ h => h) hr.heap hf h1 h2 (xs := (Array.range (len * n)).map fun x => zs.toArray[x % zs.toArray.size]!) (by rw [hcells]; simp) (fun j x hj => by
    have hjl : j < len * n := by rw [← hcells]; exact (List.getElem?_eq_some_iff.1 hj).1
    have hm : j = (j / n) * n + j % n := by rw [Nat.mul_comm]; exact (Nat.div_add_mod j n).symm
    have hmn : j % n < n := Nat.mod_lt _ hnpos
    have hdl : j / n < len := by rw [Nat.div_lt_iff_lt_mul hnpos]; exact hjl
    rw [hm, flatten_at (n := n) (fun e he => by rw [List.mem_replicate] at he; rw [he.2]; simpa using hzl) (i := j / n) (e := zs.map fun z => AV.rv (.v z)) (by simp [hdl]) (j % n) hmn] at hj
    have := zs_rel (w := w) (ro := ro) (σ := s.heap) (β := β) (N := s.next) hzall (j % n) x hj
    have e1 : (Array.map (fun x => zs.toArray[x % zs.toArray.size]!) (Array.range (len * n))).getD j undef = zs.toArray.getD (j % n) undef := by
      have h3 : j % n < zs.length := by omega
      simp [hjl, hzl, List.getElem?_eq_getElem h3]
    rw [e1]
    exact this)
  have hys : ys.toList.length = (chunk n len rs).length * n := by rw [chunk_length]; simpa [hds] using g2
  refine ⟨.slice (some ⟨w.heap.size, 0, none⟩) len len, ys.toList, w.alloc (.cells ys e), ?_, ?_, World.grownBy_alloc w _ none, fun b hbk => ?_, fun j x hj => ?_⟩
  · have hse : (sizeOf e).run P w = .ok n w := by
      cases hi : P.info? e with
      | none => simp [hi] at hsz
      | some i => simp [hi] at hsz; simp [sizeOf, typeInfo, hi, hsz]
    have hne : ¬ len * n > 2 ^ 24 := by omega
    have hn0 : ¬ len * n = 0 := by omega
    simp only [execOp, ho, Sem.run_bind, Instr.buildSlice, run_underlying hu, Result.andThen_ok, hse, if_neg hne, if_neg hn0, hrz, Sem.run_pure, hzc]
    erw [g1]
    simp [newRow]
  · rw [chunk_length]
    exact World.ownsRow_lit w ys len (Nat.zero_le _) (by simp only [maxLen]; have := Nat.le_mul_of_pos_right len hnpos; omega) (by simpa [hds] using g2)
  · simp only [blk] at hbk
    split at hbk
    · cases hbk
    · simp at hbk; omega
  · rw [chunk_flatten n len rs hrl] at hj
    have h3 := g3 j (.rv x) (by rw [rvs_map hrs]; simp [hj])
    cases h3 with
    | rv _ _ h3 =>
      have : ys.toList.getD j undef = ys.getD j undef := by simp [List.getD, Array.getD_eq_getD_getElem?]
      rw [this]
      exact h3
end
end Go.Av
