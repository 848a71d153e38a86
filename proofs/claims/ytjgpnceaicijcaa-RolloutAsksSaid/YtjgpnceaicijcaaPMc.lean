/- The AV calculus, part C: the world changes: a new own block, an own block written, an own block forgotten or frozen. Conditions: none. -/
import Derived.Test.YtjgpnceaicijcaaPMb
namespace Go.Av
open Go

def upd (β : Nat → Value) (id : Nat) (v : Value) : Nat → Value := fun k => if k = id then v else β k
theorem upd_same (β : Nat → Value) (id : Nat) (v : Value) : upd β id v id = v := by simp [upd]
theorem upd_ne (β : Nat → Value) {id k : Nat} (v : Value) (h : k ≠ id) : upd β id v k = β k := by simp [upd, h]

section
variable {E : Entry} {G : Glob} {s : St} {a : Act} {w w' : World} {β : Nat → Value} {ro : Nat → Prop}

theorem ORel.keep {w w' : World} {ro ro' : Nat → Prop} {σ σ' : Heap} {β β' : Nat → Value} {N N' : Nat} {id : Nat} {o : AObj} (h : ORel w ro σ β N id o)
    (hw : ∀ b, ro b → w'.heap[b]? = w.heap[b]?) (hro : ∀ b, ro b → ro' b) (hN : N ≤ N') (hid : β' id = β id) (hblk : o.live = true → ∀ b, blk (β id) = some b → w'.heap[b]? = w.heap[b]?)
    (hbox : ∀ id t cs, hget σ' id = some (.box t cs) → β' id = β id ∧ ∃ t cs, hget σ id = some (.box t cs))
    (hrow : ∀ id z t n es, hget σ' id = some (.row z t n es) → β' id = β id ∧ ∃ z t es, hget σ id = some (.row z t n es))
    (hoth : ∀ id Φ, hget σ' id = some (.oth Φ) → β' id = β id ∧ ∃ Φ, hget σ id = some (.oth Φ)) : ORel w' ro' σ' β' N' id o := by
  cases h with
  | box t cs b arr h1 h2 h3 h4 =>
    exact .box t cs b arr (hid.trans h1) ((hblk rfl b (by rw [h1]; rfl)).trans h2) h3 fun j x hj => (h4 j x hj).keep hw hro hN hbox hrow hoth
  | row t n es xs h1 h2 h3 =>
    exact .row t n es xs (by rw [hid]; exact h1.keep fun b hb => hblk rfl b hb) h2 fun j x hj => (h3 j x hj).keep hw hro
  | fro t n es h1 => exact .fro t n es (by rw [hid]; exact h1.keep hw hro)
  | oth Φ b o h1 h2 h3 => exact .oth Φ b o (by rw [hid]; exact h1) ((hblk rfl b h1).trans h2) (by rw [hid]; exact Φ.mono _ _ _ _ (fun x c h => h.keep hw hro) h3)

/-- A new own block. -/
theorem RelAt.new (h : RelAt E G s a w β ro) (id : Nat) (hid : hget s.heap id = none) (hb : s.base ≤ id) (hlt : s.next ≤ id) (o : AObj) (val : Value)
    (hos : w'.os = w.os) (htape : w'.tape = w.tape) (hout : w'.output = w.output) (hsz : w.heap.size ≤ w'.heap.size) (hw : ∀ b, b < w.heap.size → w'.heap[b]? = w.heap[b]?)
    (hblk : ∀ b, blk val = some b → w.heap.size ≤ b) (_hlive : o.live = true)
    (hO : ORel w' ro ((id, o) :: s.heap) (upd β id val) (id + 1) id o) : RelAt E G { s with heap := (id, o) :: s.heap, next := id + 1 } a w' (upd β id val) ro := by
  have hro : ∀ b, ro b → w'.heap[b]? = w.heap[b]? := fun b hr => hw b (h.heap.lt b hr)
  have hg : ∀ k, k ≠ id → hget ((id, o) :: s.heap) k = hget s.heap k := fun k hk => by simp [hget, Ne.symm hk]
  have hgi : hget ((id, o) :: s.heap) id = some o := by simp [hget]
  have ownOld : ∀ k p b, hget s.heap k = some p → p.live = true → blk (β k) = some b → b < w.heap.size := fun k p b hk hp hbk => (h.heap.objs k p hk).blkLt hp hbk
  have key : ∀ x c, ARel w ro s.heap β s.next x c → ARel w' ro ((id, o) :: s.heap) (upd β id val) (id + 1) x c := by
    intro x c hx
    induction hx with
    | rv x c hx => exact .rv x c (hx.keep hro fun _ h => h)
    | agg cs c hs _ ih => exact .agg cs c hs ih
    | tuple cs c hs _ ih => exact .tuple cs c hs ih
    | ptr k off c hl hp =>
      have hk : k ≠ id := by omega
      exact .ptr k off c (by omega) fun t cs hgk => by rw [upd_ne _ _ hk]; rw [hg k hk] at hgk; exact hp t cs hgk
    | eptr k i off c hl hp =>
      have hk : k ≠ id := by omega
      exact .eptr k i off c (by omega) fun z t n es hgk => by rw [upd_ne _ _ hk]; rw [hg k hk] at hgk; exact hp z t n es hgk
    | sl k c hl hp =>
      have hk : k ≠ id := by omega
      exact .sl k c (by omega) fun z t n es hgk => by rw [upd_ne _ _ hk]; rw [hg k hk] at hgk; exact hp z t n es hgk
    | fn f p q c d h1 h2 _ _ ih1 ih2 => exact .fn f p q c d h1 h2 ih1 ih2
    | ref k c hl hp =>
      have hk : k ≠ id := by omega
      exact .ref k c (by omega) fun Φ hgk => by rw [upd_ne _ _ hk]; rw [hg k hk] at hgk; exact hp Φ hgk
    | top c => exact .top c
  refine ⟨h.defers, h.size, fun i x hx => key _ _ (h.slot i x hx), ⟨fun k p hk => ?_, fun k k' p p' b hk hk' hp hp' hbk hbk' => ?_, fun b hr => ?_, fun b hr => Nat.lt_of_lt_of_le (h.heap.lt b hr) hsz⟩,
    h.glob.keep hro fun _ h => h, ?_, h.base⟩
  · by_cases hki : k = id
    · subst hki
      rw [hgi] at hk
      simp only [Option.some.injEq] at hk
      subst hk
      exact hO
    · rw [hg k hki] at hk
      have hoo := h.heap.objs k p hk
      cases hoo with
      | box t cs b arr h1 h2 h3 h4 =>
        have hbl := ownOld k _ b hk rfl (by rw [h1]; rfl)
        exact .box t cs b arr (by rw [upd_ne _ _ hki]; exact h1) ((hw b hbl).trans h2) h3 fun j x hj => key _ _ (h4 j x hj)
      | row t n es xs h1 h2 h3 =>
        exact .row t n es xs (by rw [upd_ne _ _ hki]; exact h1.keep fun b hb => hw b (h1.blkLt hb).1) h2 fun j x hj => (h3 j x hj).keep hro fun _ h => h
      | fro t n es h1 => exact .fro t n es (by rw [upd_ne _ _ hki]; exact h1.keep hro fun _ h => h)
      | oth Φ b o h1 h2 h3 => exact .oth Φ b o (by rw [upd_ne _ _ hki]; exact h1) ((hw b (Array.getElem?_eq_some_iff.1 h2).1).trans h2) (by rw [upd_ne _ _ hki]; exact Φ.mono _ _ _ _ (fun x c h => h.keep hro fun _ h => h) h3)
  · by_cases hki : k = id
    · by_cases hki' : k' = id
      · rw [hki, hki']
      · subst hki
        rw [upd_same] at hbk
        rw [upd_ne _ _ hki'] at hbk'
        rw [hg k' hki'] at hk'
        have h1 := hblk b hbk
        have h2 := ownOld k' p' b hk' hp' hbk'
        omega
    · by_cases hki' : k' = id
      · subst hki'
        rw [upd_same] at hbk'
        rw [upd_ne _ _ hki] at hbk
        rw [hg k hki] at hk
        have h1 := hblk b hbk'
        have h2 := ownOld k p b hk hp hbk
        omega
      · rw [upd_ne _ _ hki] at hbk
        rw [upd_ne _ _ hki'] at hbk'
        rw [hg k hki] at hk
        rw [hg k' hki'] at hk'
        exact h.heap.inj k k' p p' b hk hk' hp hp' hbk hbk'
  · rintro ⟨k, p, hk, hp, hbk⟩
    by_cases hki : k = id
    · subst hki
      rw [upd_same] at hbk
      have h1 := hblk b hbk
      have h2 := h.heap.lt b hr
      omega
    · rw [upd_ne _ _ hki] at hbk
      rw [hg k hki] at hk
      exact h.heap.disj b hr ⟨k, p, hk, hp, hbk⟩
  · have t := h.trans
    refine ⟨hos.trans t.os, htape.trans t.tape, hout.trans t.output, Nat.le_trans t.size hsz, fun b hbl hno => ?_, t.roSub, t.roKeep, ?_, fun k hk p hgk => ?_, fun k p hgk => ?_, Nat.le_trans h.base (Nat.le_trans hb (Nat.le_succ _))⟩
    · rw [hw b (Nat.lt_of_lt_of_le hbl t.size)]
      exact t.frame b hbl hno
    · rintro b ⟨k, p, hk, hp, hbk⟩
      by_cases hki : k = id
      · subst hki
        rw [upd_same] at hbk
        exact .inr (Nat.le_trans t.size (hblk b hbk))
      · rw [upd_ne _ _ hki] at hbk
        rw [hg k hki] at hk
        exact t.ownSub b ⟨k, p, hk, hp, hbk⟩
    · have hki : k ≠ id := by have := h.base; omega
      rw [hg k hki] at hgk
      rw [upd_ne _ _ hki]
      exact t.old k hk p hgk
    · by_cases hki : k = id
      · subst hki; exact Nat.lt_succ_self _
      · rw [hg k hki] at hgk
        have := t.new k p hgk
        show k < id + 1
        omega

/-- An own block is written in place. -/
theorem RelAt.write (h : RelAt E G s a w β ro) (id : Nat) (o o' : AObj) (hid : hget s.heap id = some o) (hlive : o.live = true) (hlive' : o'.live = true)
    (hkind : (∃ t cs cs', o = .box t cs ∧ o' = .box t cs') ∨ (∃ t n es es', o = .row false t n es ∧ o' = .row false t n es') ∨ (∃ Φ Φ', o = .oth Φ ∧ o' = .oth Φ'))
    (hos : w'.os = w.os) (htape : w'.tape = w.tape) (hout : w'.output = w.output) (hsz : w.heap.size ≤ w'.heap.size) (hw : ∀ b, b < w.heap.size → blk (β id) ≠ some b → w'.heap[b]? = w.heap[b]?)
    (hO : ORel w' ro (hset s.heap id o') β s.next id o') : RelAt E G { s with heap := hset s.heap id o' } a w' β ro := by
  have hro : ∀ b, ro b → w'.heap[b]? = w.heap[b]? := fun b hr => hw b (h.heap.lt b hr) fun hb => h.heap.disj b hr ⟨id, o, hid, hlive, hb⟩
  have hg := hget_hset s.heap id o'
  have own : ∀ b, Own (hset s.heap id o') β b → Own s.heap β b := by
    rintro b ⟨k, p, hk, hp, hbk⟩
    rw [hg k] at hk
    by_cases hki : id = k
    · subst hki; exact ⟨id, o, hid, hlive, hbk⟩
    · rw [if_neg hki] at hk; exact ⟨k, p, hk, hp, hbk⟩
  have ownLt : ∀ k p b, hget s.heap k = some p → p.live = true → blk (β k) = some b → b < w.heap.size := fun k p b hk hp hbk => (h.heap.objs k p hk).blkLt hp hbk
  have hbox : ∀ k t cs, hget (hset s.heap id o') k = some (.box t cs) → β k = β k ∧ ∃ t cs, hget s.heap k = some (.box t cs) := by
    intro k t cs hk
    rw [hg k] at hk
    by_cases hki : id = k
    · subst hki
      rw [if_pos rfl] at hk
      simp only [Option.some.injEq] at hk
      rcases hkind with ⟨t1, c1, c2, rfl, rfl⟩ | ⟨t1, n, e1, e2, rfl, rfl⟩ | ⟨_, _, rfl, rfl⟩
      · exact ⟨rfl, t1, c1, hid⟩
      · cases hk
      · cases hk
    · rw [if_neg hki] at hk; exact ⟨rfl, t, cs, hk⟩
  have hrow : ∀ k z t n es, hget (hset s.heap id o') k = some (.row z t n es) → β k = β k ∧ ∃ z t es, hget s.heap k = some (.row z t n es) := by
    intro k z t n es hk
    rw [hg k] at hk
    by_cases hki : id = k
    · subst hki
      rw [if_pos rfl] at hk
      simp only [Option.some.injEq] at hk
      rcases hkind with ⟨t1, c1, c2, rfl, rfl⟩ | ⟨t1, n1, e1, e2, rfl, rfl⟩ | ⟨_, _, rfl, rfl⟩
      · cases hk
      · simp only [AObj.row.injEq] at hk
        obtain ⟨_, _, rfl, _⟩ := hk
        exact ⟨rfl, _, _, _, hid⟩
      · cases hk
    · rw [if_neg hki] at hk; exact ⟨rfl, z, t, es, hk⟩
  have hoth : ∀ k Φ, hget (hset s.heap id o') k = some (.oth Φ) → β k = β k ∧ ∃ Φ, hget s.heap k = some (.oth Φ) := by
    intro k Φ hk
    rw [hg k] at hk
    by_cases hki : id = k
    · subst hki
      rw [if_pos rfl] at hk
      simp only [Option.some.injEq] at hk
      rcases hkind with ⟨t1, c1, c2, rfl, rfl⟩ | ⟨t1, n1, e1, e2, rfl, rfl⟩ | ⟨Φ1, _, rfl, rfl⟩
      · cases hk
      · cases hk
      · exact ⟨rfl, Φ1, hid⟩
    · rw [if_neg hki] at hk; exact ⟨rfl, Φ, hk⟩
  refine ⟨h.defers, h.size, fun i x hx => (h.slot i x hx).keep hro (fun _ h => h) (Nat.le_refl _) hbox hrow hoth, ⟨fun k p hk => ?_, fun k k' p p' b hk hk' hp hp' hbk hbk' => ?_, fun b hr hb => h.heap.disj b hr (own b hb),
    fun b hr => Nat.lt_of_lt_of_le (h.heap.lt b hr) hsz⟩, h.glob.keep hro fun _ h => h, ?_, h.base⟩
  · rw [hg k] at hk
    by_cases hki : id = k
    · subst hki
      rw [if_pos rfl] at hk
      simp only [Option.some.injEq] at hk
      subst hk
      exact hO
    · rw [if_neg hki] at hk
      refine (h.heap.objs k p hk).keep hro (fun _ h => h) (Nat.le_refl _) rfl (fun hl b hb => hw b (ownLt k p b hk hl hb) fun hbi => hki (h.heap.inj id k o p b hid hk hlive hl hbi hb)) hbox hrow hoth
  · have h1 : ∃ q, hget s.heap k = some q ∧ q.live = true := by
      rw [hg k] at hk
      by_cases hki : id = k
      · subst hki; exact ⟨o, hid, hlive⟩
      · rw [if_neg hki] at hk; exact ⟨p, hk, hp⟩
    have h2 : ∃ q, hget s.heap k' = some q ∧ q.live = true := by
      rw [hg k'] at hk'
      by_cases hki : id = k'
      · subst hki; exact ⟨o, hid, hlive⟩
      · rw [if_neg hki] at hk'; exact ⟨p', hk', hp'⟩
    obtain ⟨q, hq, hql⟩ := h1
    obtain ⟨q', hq', hql'⟩ := h2
    exact h.heap.inj k k' q q' b hq hq' hql hql' hbk hbk'
  · have t := h.trans
    refine ⟨hos.trans t.os, htape.trans t.tape, hout.trans t.output, Nat.le_trans t.size hsz, fun b hbl hno => ?_, t.roSub, t.roKeep, fun b hb => t.ownSub b (own b hb), fun k hk p hgk => ?_, fun k p hgk => ?_, t.le⟩
    · by_cases hbi : blk (β id) = some b
      · rcases t.ownSub b ⟨id, o, hid, hlive, hbi⟩ with hc | hc
        · exact absurd hc hno
        · omega
      · rw [hw b (Nat.lt_of_lt_of_le hbl t.size) hbi]
        exact t.frame b hbl hno
    · rw [hg k] at hgk
      by_cases hki : id = k
      · subst hki; exact t.old id hk o hid
      · rw [if_neg hki] at hgk; exact t.old k hk p hgk
    · rw [hg k] at hgk
      by_cases hki : id = k
      · subst hki; exact t.new id o hid
      · rw [if_neg hki] at hgk; exact t.new k p hgk
end
end Go.Av
