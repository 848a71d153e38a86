/- The AV calculus, part X: a region that draws its order, and ends with operations that come behind all others. Conditions: none. -/
import Derived.Test.YtelohjccoimnaaaDoorMw
namespace Go.Av
open Go

/-- The first n operations can be drawn without harm, and each other one comes behind all that stand before it. -/
def drawOkN (n : Nat) (ops : Array Oper) : Bool :=
  (List.range ops.size).all fun i => match ops[i]? with
    | none => false
    | some o => o.after.all (fun e => !Region.binds .any e || decide (e.on < i)) && (match Nat.blt i n with
      | true => (List.range i).all fun j => match ops[j]? with
        | none => false
        | some p => (match p.dst, o.dst with
            | some d, some d' => d != d'
            | _, _ => true) &&
          (o.after.any (fun e => e.on == j && Region.binds .any e) || ((match p.dst with
            | some d => !(o.looksAt ops).contains d
            | none => true) && (match o.dst with
            | some d => !(p.looksAt ops).contains d
            | none => true)))
      | false => (List.range i).all fun j => o.after.any (fun e => e.on == j && Region.binds .any e))

theorem any_edge {o : Oper} {j : Nat} (h : o.after.any (fun e => e.on == j && Region.binds .any e) = true) : ∃ e ∈ o.after, e.on = j ∧ Region.binds .any e = true := by
  rw [Array.any_eq_true] at h
  obtain ⟨q, hq, h⟩ := h
  have he : o.after[q] ∈ o.after := Array.getElem_mem hq
  generalize o.after[q] = e at h he
  simp only [Bool.and_eq_true, beq_iff_eq] at h
  exact ⟨e, he, h.1, h.2⟩

theorem drawOkN_all {n : Nat} {ops : Array Oper} (h : drawOkN n ops = true) {i : Nat} {o : Oper} (hi : ops[i]? = some o) : ∀ e ∈ o.after, Region.binds .any e = true → e.on < i := by
  unfold drawOkN at h
  rw [List.all_eq_true] at h
  have hlt : i < ops.size := (Array.getElem?_eq_some_iff.1 hi).1
  have h1 := h i (List.mem_range.2 hlt)
  simp only [hi, Bool.and_eq_true] at h1
  exact fun e he hb => by simpa [hb] using (Array.all_eq_true_iff_forall_mem.1 h1.1) e he
theorem drawOkN_tail {n : Nat} {ops : Array Oper} (h : drawOkN n ops = true) {i : Nat} {o : Oper} (hi : ops[i]? = some o) (hn : n ≤ i) : ∀ j, j < i → ∃ e ∈ o.after, e.on = j ∧ Region.binds .any e = true := by
  unfold drawOkN at h
  rw [List.all_eq_true] at h
  have hlt : i < ops.size := (Array.getElem?_eq_some_iff.1 hi).1
  have h1 := h i (List.mem_range.2 hlt)
  simp only [hi, Bool.and_eq_true] at h1
  have h2 := h1.2
  split at h2
  · rename_i hb
    have : i < n := by simpa [Nat.blt_eq] using hb
    omega
  · intro j hj
    rw [List.all_eq_true] at h2
    exact any_edge (h2 j (List.mem_range.2 hj))
theorem drawOkN_head {n : Nat} {ops : Array Oper} (h : drawOkN n ops = true) {i : Nat} {o : Oper} (hi : ops[i]? = some o) (hn : i < n) : ∀ j p, j < i → ops[j]? = some p → (p.dst ≠ none → p.dst ≠ o.dst) ∧ ((∃ e ∈ o.after, e.on = j ∧ Region.binds .any e = true) ∨ ((∀ d, p.dst = some d → d ∉ o.looksAt ops) ∧ ∀ d, o.dst = some d → d ∉ p.looksAt ops)) := by
  unfold drawOkN at h
  rw [List.all_eq_true] at h
  have hlt : i < ops.size := (Array.getElem?_eq_some_iff.1 hi).1
  have h1 := h i (List.mem_range.2 hlt)
  simp only [hi, Bool.and_eq_true] at h1
  have h2 := h1.2
  split at h2
  · intro j p hj hp
    rw [List.all_eq_true] at h2
    have h4 := h2 j (List.mem_range.2 hj)
    simp only [hp, Bool.and_eq_true] at h4
    obtain ⟨h5, h6⟩ := h4
    refine ⟨fun hn he => ?_, ?_⟩
    · cases hd : p.dst with
      | none => exact hn hd
      | some d =>
        rw [hd] at he
        rw [hd, ← he] at h5
        simp at h5
    · simp only [Bool.or_eq_true, Bool.and_eq_true] at h6
      rcases h6 with h6 | ⟨h6, h7⟩
      · exact .inl (any_edge h6)
      · right
        refine ⟨fun d hd => ?_, fun d hd => ?_⟩
        · rw [hd] at h6; simpa using h6
        · rw [hd] at h7; simpa using h7
  · rename_i hb
    have h1 : Nat.blt i n = true := by rw [Nat.blt_eq]; exact hn
    rw [h1] at hb
    cases hb

section
variable {P : Program} {G : Glob} {s0 : St}
theorem wanted_of {ops : Array Oper} {E : Entry} {s : St} {a : Act} {w : World} {o : Oper} {b : Bool} (hr : Rel E G s a w) (hg : gwant ops s o = some b) : Region.wanted o (yielded ops a.tmps) = b := by
  unfold gwant at hg
  split at hg
  · rename_i hn
    simp at hg
    subst hg
    simp [Region.wanted, hn]
  · rename_i j c hn
    split at hg
    · rename_i d hdd
      split at hg
      · rename_i c' hs
        have hy := yielded_of hr hdd hs
        simp only [Option.some.injEq] at hg
        cases c <;> cases c' <;> simp at hg <;> subst hg <;> simp [Region.wanted, hn, hy]
      · rename_i cs hs
        have hy := yielded_none hr hdd hs
        simp at hg
        subst hg
        simp [Region.wanted, hn, hy]
      · cases hg
    · cases hg

theorem AWp.drawnT {id : Nat} {l : List Oper} {Q : Exit → St → Prop} (n : Nat) (vals T' : List AV) (hP : P.follows .mixedOrders = true) (hn : n ≤ l.length) (hok : drawOkN n l.toArray = true) (hds : DSteps P G l.toArray s0 s0.slots (l.take n) vals T')
    (k : AOps P G l.toArray Q (l.drop n) { s0 with slots := T' }) : AWp P G (.region id l.toArray true) Q s0 := by
  intro E a0 w0 hr0
  have hl : ∀ j : Nat, (l.toArray)[j]? = l[j]? := fun j => by simp
  have htk : ∀ j : Nat, j < n → (l.take n)[j]? = l[j]? := fun j hj => by rw [List.getElem?_take, if_pos hj]
  have htk' : ∀ (j : Nat) (o : Oper), (l.take n)[j]? = some o → j < n ∧ l[j]? = some o := fun j o h => by
    rw [List.getElem?_take] at h
    split at h
    · rename_i hj; exact ⟨hj, h⟩
    · cases h
  have hdis : ∀ (i : Nat) (o : Oper), (l.take n)[i]? = some o → ∀ (j : Nat) (p : Oper), j < i → (l.take n)[j]? = some p → p.dst ≠ none → p.dst ≠ o.dst := fun i o hi j p hj hp =>
    (drawOkN_head hok (by rw [hl]; exact (htk' i o hi).2) (htk' i o hi).1 j p hj (by rw [hl]; exact (htk' j p hp).2)).1
  have hdis2 : ∀ (i : Nat) (o : Oper), (l.take n)[i]? = some o → ∀ (j : Nat) (p : Oper), j ≠ i → (l.take n)[j]? = some p → p.dst ≠ none → p.dst ≠ o.dst := fun i o hi j p hne hp hn he => by
    rcases Nat.lt_or_ge j i with h | h
    · exact hdis i o hi j p h hp hn he
    · exact hdis j p hp i o (by omega) hi (by rw [← he]; exact hn) he.symm
  obtain ⟨hsp, hfin⟩ := DSteps.spec 0 (L := l.take n) (V := vals) (T0 := s0.slots) hds (fun j => by simp) (fun j => by simp) hdis ⟨rfl, fun t ht => ⟨fun _ => rfl, fun j o _ hj => by omega⟩⟩
  simp only [Nat.zero_add] at hsp hfin
  let Inv1 : Array Bool → Act → World → Prop := fun listed a w => ∃ s, Rel E G s a w ∧ s.heap = s0.heap ∧ s.next = s0.next ∧ s.base = s0.base ∧ Lk (l.take n) vals s0.slots (fun j => listed.getD j false = true) s.slots ∧
    (∀ j o, (l.take n)[j]? = some o → listed.getD j false = true → ∀ e ∈ o.after, Region.binds .any e = true → listed.getD e.on false = true) ∧ listed.size = l.length ∧ ∀ j, n ≤ j → listed.getD j false = false
  let Inv2 : Array Bool → Act → World → Prop := fun listed a w => ∃ m, n ≤ m ∧ m ≤ l.length ∧ listed.size = l.length ∧ (∀ j, listed.getD j false = true ↔ j < m) ∧ wpList P l.toArray (lift E G Q) (l.drop m) a w
  have hready : ∀ {listed : Array Bool}, listed.size = l.length → ∀ {i : Nat}, i ∈ Region.ready .any l.toArray listed → i < l.length ∧ listed.getD i false = false ∧ ∃ o, l[i]? = some o ∧ ∀ e ∈ o.after, Region.binds .any e = true → listed.getD e.on false = true := by
    intro listed hsz i hi
    rw [mem_ready] at hi
    obtain ⟨hun, o, ho, hpre⟩ := hi
    rw [hl] at ho
    have hil : i < l.length := (List.getElem?_eq_some_iff.1 ho).1
    refine ⟨hil, ?_, o, ho, hpre⟩
    have : i < listed.size := by omega
    simp only [Array.getD, this, dif_pos] at hun ⊢
    exact hun
  have hset : ∀ {listed : Array Bool} {i : Nat}, i < listed.size → ∀ j, (listed.setIfInBounds i true).getD j false = true ↔ listed.getD j false = true ∨ j = i := by
    intro listed i hb j
    by_cases hj : j = i
    · subst hj
      simp [hb]
    · simp only [hj, or_false]
      rw [getD_set_ne false (fun e => hj e.symm)]
  have mk : ∀ {listed : Array Bool}, listed.size = l.length → ∀ {i : Nat} {o : Oper}, l[i]? = some o → listed.getD i false = false → (∀ e ∈ o.after, Region.binds .any e = true → listed.getD e.on false = true) → i ∈ Region.ready .any l.toArray listed := by
    intro listed hsz i o ho hun hpre
    rw [mem_ready]
    have hil : i < l.length := (List.getElem?_eq_some_iff.1 ho).1
    have hb : i < listed.size := by omega
    refine ⟨?_, o, by rw [hl]; exact ho, hpre⟩
    simp only [Array.getD, hb, dif_pos] at hun ⊢
    exact hun
  -- all of the head is listed: the tail begins
  have turn : ∀ listed a w, Inv1 listed a w → (∀ j, j < n → listed.getD j false = true) → Inv2 listed a w := by
    rintro listed a w ⟨s, hr, h1, h2, h3, hlk, hdc, hsz, hno⟩ hall
    refine ⟨n, Nat.le_refl _, hn, hsz, fun j => ⟨fun h => ?_, hall j⟩, ?_⟩
    · rcases Nat.lt_or_ge j n with h' | h'
      · exact h'
      · rw [hno j h'] at h; cases h
    · have hsl : s.slots = T' := by
        apply List.ext_getElem?
        intro t
        refine hlk.same hfin t fun j p hj _ => ?_
        obtain ⟨hjn, hjl⟩ := htk' j p hj
        have : j < l.length := (List.getElem?_eq_some_iff.1 hjl).1
        exact ⟨fun _ => by simp; omega, fun _ => hall j hjn⟩
      have : s = { s0 with slots := T' } := by
        cases s
        simp only at h1 h2 h3 hsl
        subst h1 h2 h3 hsl
        rfl
      subst this
      exact k E a w hr
  have step1 : ∀ listed a w, Inv1 listed a w → (∃ j, j < n ∧ listed.getD j false = false) → ∀ i ∈ Region.ready .any l.toArray listed, ∀ K : Act → World → Prop, (∀ a' w', Inv1 (listed.setIfInBounds i true) a' w' → K a' w') → wpOp P l.toArray (lift E G Q) i K a w := by
    rintro listed a w ⟨s, hr, h1, h2, h3, hlk, hdc, hsz, hno⟩ ⟨j0, hj0, hj0u⟩ i hi K hK
    obtain ⟨hil, hunl, o, ho, hpre⟩ := hready hsz hi
    have hin : i < n := by
      rcases Nat.lt_or_ge i n with h | h
      · exact h
      · obtain ⟨e, he, h4, h5⟩ := drawOkN_tail hok (by rw [hl]; exact ho) h j0 (by omega)
        have := hpre e he h5
        rw [h4, hj0u] at this
        cases this
    have hot : (l.take n)[i]? = some o := by rw [htk i hin]; exact ho
    obtain ⟨v, Ti, hv, hd, hTi⟩ := hsp i o hot
    have hag : ∀ t ∈ o.looksAt l.toArray, s.slots[t]? = Ti[t]? := fun t ht => hlk.same hTi t fun j p hj hp => by
      obtain ⟨hjn, hjl⟩ := htk' j p hj
      constructor
      · intro hlj
        rcases Nat.lt_or_ge j i with h | h
        · exact h
        · exfalso
          by_cases hji : j = i
          · subst hji; rw [hunl] at hlj; cases hlj
          · rcases (drawOkN_head hok (i := j) (by rw [hl]; exact hjl) hjn i o (by omega) (by rw [hl]; exact ho)).2 with ⟨e, he, h4, h5⟩ | ⟨_, h4⟩
            · have := hdc j p hj hlj e he h5
              rw [h4, hunl] at this
              cases this
            · exact h4 t hp ht
      · intro hji
        rcases (drawOkN_head hok (i := i) (by rw [hl]; exact ho) hin j p hji (by rw [hl]; exact hjl)).2 with ⟨e, he, h4, h5⟩ | ⟨h4, _⟩
        · have := hpre e he h5
          rw [h4] at this
          exact this
        · exact absurd ht (h4 t hp)
    have hcase := hd s h1 h2 h3 (hlk.1.trans hTi.1.symm) hag
    have hb : i < listed.size := by omega
    have hnext : ∀ a' w', Rel E G (s.put o.dst v) a' w' → Inv1 (listed.setIfInBounds i true) a' w' := fun a' w' hr' => by
      have hp := hlk.put hot hv (fun j p hj hlj hn => hdis2 i o hot j p (fun e => by subst e; rw [hunl] at hlj; cases hlj) hj hn) (E' := fun j => (listed.setIfInBounds i true).getD j false = true) (fun j => hset hb j)
      have hps : (s.put o.dst v).slots = putL s.slots o.dst v := by cases hdst : o.dst <;> simp [St.put, putL]
      refine ⟨s.put o.dst v, hr', ?_, ?_, ?_, by rw [hps]; exact hp, fun j p hj hlj e he hb' => ?_, by simpa using hsz, fun j hj => ?_⟩
      · cases hdst : o.dst <;> simp [St.put, h1]
      · cases hdst : o.dst <;> simp [St.put, h2]
      · cases hdst : o.dst <;> simp [St.put, h3]
      · rw [hset hb]
        left
        rcases (hset hb j).1 hlj with h4 | h4
        · exact hdc j p hj h4 e he hb'
        · subst h4
          rw [hot] at hj
          simp only [Option.some.injEq] at hj
          subst hj
          exact hpre e he hb'
      · rw [getD_set_ne false (by omega)]
        exact hno j hj
    unfold wpOp
    rw [hl, ho]
    simp only
    rcases hcase with ⟨hg, hop⟩ | ⟨hg, rfl⟩
    · rw [if_pos (wanted_of hr hg)]
      exact .inl (hop E a w hr _ _ fun a' w' hr' => hK a' w' (hnext a' w' hr'))
    · rw [wanted_of hr hg]
      simp only [Bool.false_eq_true, if_false]
      exact hK _ _ (hnext _ _ (hr.putUndef o.dst))
  have live1 : ∀ listed a w, Inv1 listed a w → (∃ j, j < n ∧ listed.getD j false = false) → Region.ready .any l.toArray listed ≠ [] := by
    rintro listed a w ⟨s, hr, h1, h2, h3, hlk, hdc, hsz, hno⟩ hex hnil
    have hall : ∀ m i, i < m → i < n → listed.getD i false = true := by
      intro m
      induction m with
      | zero => intro i hi; omega
      | succ m ih =>
        intro i him hin
        by_cases him' : i < m
        · exact ih i him' hin
        · have : i = m := by omega
          subst this
          cases hli : listed.getD i false with
          | true => rfl
          | false =>
            exfalso
            have ho : l[i]? = some (l[i]'(by omega)) := List.getElem?_eq_getElem (by omega)
            have hmem := mk hsz ho hli fun e he hbd => by
              have hlt := drawOkN_all hok (by rw [hl]; exact ho) e he hbd
              exact ih e.on hlt (by omega)
            rw [hnil] at hmem
            cases hmem
    obtain ⟨j, hj, hju⟩ := hex
    rw [hall (j + 1) j (by omega) hj] at hju
    cases hju
  have step2 : ∀ listed a w, Inv2 listed a w → ∀ i ∈ Region.ready .any l.toArray listed, ∀ K : Act → World → Prop, (∀ a' w', Inv2 (listed.setIfInBounds i true) a' w' → K a' w') → wpOp P l.toArray (lift E G Q) i K a w := by
    rintro listed a w ⟨m, hnm, hml, hsz, hlm, hwp⟩ i hi K hK
    obtain ⟨hil, hunl, o, ho, hpre⟩ := hready hsz hi
    have him : m ≤ i := by
      rcases Nat.lt_or_ge i m with h | h
      · rw [(hlm i).2 h] at hunl; cases hunl
      · exact h
    have hie : i = m := by
      rcases Nat.lt_or_ge m i with h | h
      · obtain ⟨e, he, h4, h5⟩ := drawOkN_tail hok (by rw [hl]; exact ho) (by omega) m h
        have := hpre e he h5
        rw [h4, hlm m] at this
        omega
      · omega
    subst hie
    have hdrop : l.drop i = o :: l.drop (i + 1) := by
      rw [List.drop_eq_getElem_cons hil]
      congr 1
      rw [List.getElem?_eq_getElem hil] at ho
      exact Option.some.inj ho
    rw [hdrop] at hwp
    have hb : i < listed.size := by omega
    have hnext : ∀ a' w', wpList P l.toArray (lift E G Q) (l.drop (i + 1)) a' w' → K a' w' := fun a' w' h => hK a' w' ⟨i + 1, by omega, by omega, by simpa using hsz, fun j => by rw [hset hb, hlm]; omega, h⟩
    unfold wpOp
    rw [hl, ho]
    simp only
    unfold wpList at hwp
    split at hwp
    · rename_i hw
      rw [if_pos hw]
      rcases hwp with h | h
      · exact .inl (Oper.wp_mono hnext h)
      · exact .inr h
    · rename_i hw
      rw [if_neg hw]
      exact hnext _ _ hwp
  have fin2 : ∀ listed a w, Inv2 listed a w → Region.ready .any l.toArray listed = [] → lift E G Q .normal a w := by
    rintro listed a w ⟨m, hnm, hml, hsz, hlm, hwp⟩ hnil
    have hm : m = l.length := by
      rcases Nat.lt_or_ge m l.length with h | h
      · exfalso
        have ho : l[m]? = some l[m] := List.getElem?_eq_getElem h
        have hmem := mk hsz ho (by cases hq : listed.getD m false with | false => rfl | true => have := (hlm m).1 hq; omega) fun e he hbd => (hlm e.on).2 (drawOkN_all hok (by rw [hl]; exact ho) e he hbd)
        rw [hnil] at hmem
        cases hmem
      · omega
    subst hm
    rw [List.drop_length] at hwp
    exact hwp
  have key : ∀ fuel listed a w, Inv1 listed a w ∨ Inv2 listed a w → listed.size = l.length → ((List.range l.length).countP fun j => !listed.getD j false) ≤ fuel → wpAny P .any l.toArray (lift E G Q) fuel listed a w := by
    intro fuel
    induction fuel with
    | zero =>
      intro listed a w hI hsz hc
      have hnil : Region.ready .any l.toArray listed = [] := by
        cases hrd : Region.ready .any l.toArray listed with
        | nil => rfl
        | cons i r =>
          exfalso
          have hi : i ∈ Region.ready .any l.toArray listed := by rw [hrd]; simp
          obtain ⟨hil, hunl, _⟩ := hready hsz hi
          have hpos : 0 < (List.range l.length).countP fun j => !listed.getD j false := by
            rw [List.countP_pos_iff]
            exact ⟨i, List.mem_range.2 hil, by rw [hunl]; rfl⟩
          omega
      rcases hI with hI | hI
      · by_cases hex : ∃ j, j < n ∧ listed.getD j false = false
        · exact absurd hnil (live1 listed a w hI hex)
        · refine ⟨hnil, fin2 listed a w (turn listed a w hI fun j hj => ?_) hnil⟩
          cases hq : listed.getD j false with
          | true => rfl
          | false => exact absurd ⟨j, hj, hq⟩ hex
      · exact ⟨hnil, fin2 listed a w hI hnil⟩
    | succ fuel ih =>
      intro listed a w hI hsz hc
      have hlt : ∀ i ∈ Region.ready .any l.toArray listed, ((List.range l.length).countP fun j => !(listed.setIfInBounds i true).getD j false) ≤ fuel := by
        intro i hi
        obtain ⟨hil, hunl, _⟩ := hready hsz hi
        have hb : i < listed.size := by omega
        have hlt : ((List.range l.length).countP fun j => !(listed.setIfInBounds i true).getD j false) < (List.range l.length).countP fun j => !listed.getD j false := by
          refine countP_lt _ _ _ (fun x _ hx => ?_) ⟨i, List.mem_range.2 hil, by rw [hunl]; rfl, by simp [hb]⟩
          by_cases hxi : i = x
          · subst hxi; simp [hb] at hx
          · rw [getD_set_ne false hxi] at hx; exact hx
        omega
      have two : Inv2 listed a w → wpAny P .any l.toArray (lift E G Q) (fuel + 1) listed a w := fun hI => ⟨fun hnil => fin2 listed a w hI hnil, fun i hi => step2 listed a w hI i hi _ fun a' w' hI' => ih _ a' w' (.inr hI') (by simpa using hsz) (hlt i hi)⟩
      rcases hI with hI | hI
      · by_cases hex : ∃ j, j < n ∧ listed.getD j false = false
        · exact ⟨fun hnil => absurd hnil (live1 listed a w hI hex), fun i hi => step1 listed a w hI hex i hi _ fun a' w' hI' => ih _ a' w' (.inl hI') (by simpa using hsz) (hlt i hi)⟩
        · refine two (turn listed a w hI fun j hj => ?_)
          cases hq : listed.getD j false with
          | true => rfl
          | false => exact absurd ⟨j, hj, hq⟩ hex
      · exact two hI
  refine wp_region_any hP (key _ _ _ _ (.inl ?_) (by simp) ?_)
  · obtain ⟨β, ro, hr⟩ := hr0
    have hg := hr.grow (w' := { w0 with drawn := w0.drawn + 1 }) (ro' := ro) rfl rfl rfl (Nat.le_refl _) (fun _ _ => rfl) (fun _ h => h) (fun _ h => .inl h)
    refine ⟨s0, ⟨β, ro, hg⟩, rfl, rfl, rfl, ⟨rfl, fun t ht => ⟨fun _ => rfl, fun j o hj hlj => ?_⟩⟩, fun j o hj hlj => ?_, by simp, fun j hj => ?_⟩
    · simp [Array.getD] at hlj
    · simp [Array.getD] at hlj
    · simp [Array.getD]
  · refine Nat.le_trans (List.countP_le_length) (by simp)

/-- A value is put with nil slices seen as empty rows. -/
theorem DStep.nl {ops : Array Oper} {T : List AV} {o : Oper} {v v' : AV} (m : List (Option Nat)) (h : DStep P G ops s0 T o v) (e : nilsA m v = v' := by as_aux_lemma => kernel_rfl) : DStep P G ops s0 T o v' := by
  subst e
  intro s h1 h2 h3 hlen hag
  rcases h s h1 h2 h3 hlen hag with ⟨hg, hop⟩ | ⟨hg, rfl⟩
  · refine .inl ⟨hg, fun E a w hr K Q hK => hop E a w hr K Q fun a' w' hr' => hK a' w' ?_⟩
    obtain ⟨β, ro, h⟩ := hr'
    cases hd : o.dst with
    | none => simp only [hd, St.put] at h ⊢; exact ⟨β, ro, h⟩
    | some d =>
      simp only [hd, St.put] at h ⊢
      refine ⟨β, ro, h.defers, by simpa using h.size, fun i x hx => ?_, h.heap, h.glob, h.trans, h.base⟩
      by_cases hi : d = i
      · subst hi
        simp only [List.getElem?_set, if_true] at hx
        split at hx
        · rename_i hlt
          simp only [Option.some.injEq] at hx
          subst hx
          exact nilsA_rel (h.slot d v (by simp [hlt]))
        · cases hx
      · rw [List.getElem?_set_ne hi] at hx
        exact h.slot i x (by rw [List.getElem?_set_ne hi]; exact hx)
  · exact .inr ⟨hg, rfl⟩
theorem AWp.dzT {id : Nat} {L : List Oper} {Q : Exit → St → Prop} {s : St} (i : Nat) (vals : List AV) (n : Nat) (l : List (Nat × AV)) (h : Heap) (m : Nat) (hds : DSteps P G L.toArray s s.slots (L.take i) vals (putAll s.slots (L.take i) vals)) (k : AOps P G L.toArray Q (L.drop i) (Z n l h m))
    (hP : P.follows .mixedOrders = true := by as_aux_lemma => kernel_rfl) (hi : Nat.ble i L.length = true := by as_aux_lemma => kernel_rfl) (hok : drawOkN i L.toArray = true := by as_aux_lemma => kernel_rfl) (he : vw l h { s with slots := putAll s.slots (L.take i) vals } = ⟨l, h, n, 0⟩ := by as_aux_lemma => kernel_rfl) (hm : Nat.ble s.next m = true := by as_aux_lemma => kernel_rfl) : AWp P G (.region id L.toArray true) Q s :=
  AWp.drawnT i vals _ hP (Nat.le_of_ble_eq_true hi) hok hds (AOps.le (le_vw he (Nat.le_of_ble_eq_true hm)) k)
end
end Go.Av
