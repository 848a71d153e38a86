/- The AV calculus, part P: a region that draws its order, where each operation gives a value (or a call, a row that nobody writes): it is enough to look at the order of the text. Conditions: none. -/
import Derived.Test.YtjgpnceaicijcaaPMo
namespace Go.Av
open Go

/-- The slots that the operations of a set E have set, and no other, hold their values. -/
def Lk (l : List Oper) (vals : List AV) (T0 : List AV) (E : Nat → Prop) (T : List AV) : Prop :=
  T.length = T0.length ∧ ∀ t, t < T0.length → ((∀ j o, l[j]? = some o → E j → o.dst ≠ some t) → T[t]? = T0[t]?) ∧ (∀ j o, l[j]? = some o → E j → o.dst = some t → T[t]? = vals[j]?)

theorem Lk.same {l : List Oper} {vals T0 T T' : List AV} {E E' : Nat → Prop} (h : Lk l vals T0 E T) (h' : Lk l vals T0 E' T') (t : Nat) (he : ∀ j o, l[j]? = some o → o.dst = some t → (E j ↔ E' j)) : T[t]? = T'[t]? := by
  by_cases ht : t < T0.length
  · by_cases hx : ∃ j o, l[j]? = some o ∧ E j ∧ o.dst = some t
    · obtain ⟨j, o, h1, h2, h3⟩ := hx
      rw [(h.2 t ht).2 j o h1 h2 h3, (h'.2 t ht).2 j o h1 ((he j o h1 h3).1 h2) h3]
    · have e1 : ∀ j o, l[j]? = some o → E j → o.dst ≠ some t := fun j o h1 h2 h3 => hx ⟨j, o, h1, h2, h3⟩
      have e2 : ∀ j o, l[j]? = some o → E' j → o.dst ≠ some t := fun j o h1 h2 h3 => hx ⟨j, o, h1, (he j o h1 h3).2 h2, h3⟩
      rw [(h.2 t ht).1 e1, (h'.2 t ht).1 e2]
  · rw [List.getElem?_eq_none (by have := h.1; omega), List.getElem?_eq_none (by have := h'.1; omega)]

def putL (T : List AV) (dst : Option Nat) (v : AV) : List AV :=
  match dst with
  | some d => T.set d v
  | none => T

theorem putL_length (T : List AV) (dst : Option Nat) (v : AV) : (putL T dst v).length = T.length := by
  cases dst <;> simp [putL]

theorem Lk.put {l : List Oper} {vals T0 T : List AV} {E : Nat → Prop} (h : Lk l vals T0 E T) {i : Nat} {o : Oper} {v : AV} (hi : l[i]? = some o) (hv : vals[i]? = some v)
    (hd : ∀ j p, l[j]? = some p → E j → p.dst ≠ none → p.dst ≠ o.dst) {E' : Nat → Prop} (hE : ∀ j, E' j ↔ E j ∨ j = i) : Lk l vals T0 E' (putL T o.dst v) := by
  refine ⟨by rw [putL_length]; exact h.1, fun t ht => ⟨fun hn => ?_, fun j p hj hEj hp => ?_⟩⟩
  · have h1 := (h.2 t ht).1 fun j p hj hEj => hn j p hj ((hE j).2 (.inl hEj))
    cases hdst : o.dst with
    | none => exact h1
    | some d =>
      have hne : d ≠ t := fun e => hn i o hi ((hE i).2 (.inr rfl)) (by rw [hdst, e])
      simp only [putL]
      rw [List.getElem?_set_ne hne]
      exact h1
  · rcases (hE j).1 hEj with h1 | h1
    · have h2 := (h.2 t ht).2 j p hj h1 hp
      cases hdst : o.dst with
      | none => exact h2
      | some d =>
        have hne : d ≠ t := fun e => hd j p hj h1 (by rw [hp]; simp) (by rw [hp, hdst, e])
        simp only [putL]
        rw [List.getElem?_set_ne hne]
        exact h2
    · subst h1
      rw [hi] at hj
      simp only [Option.some.injEq] at hj
      subst hj
      rw [hp]
      simp only [putL]
      rw [List.getElem?_set_self (by have := h.1; omega), hv]

/-- The operations, one after another in the order of the text. -/
inductive DSteps (P : Program) (G : Glob) (ops : Array Oper) (s0 : St) : List AV → List Oper → List AV → List AV → Prop where
  | nil (T : List AV) : DSteps P G ops s0 T [] [] T
  | cons {T : List AV} {o : Oper} {l : List Oper} {v : AV} {vs T' : List AV} : DStep P G ops s0 T o v → DSteps P G ops s0 (putL T o.dst v) l vs T' → DSteps P G ops s0 T (o :: l) (v :: vs) T'

/-- Can the order of a region be drawn without harm: what is read and written in two operations is ordered, no slot is set twice. -/
def drawOk (ops : Array Oper) : Bool :=
  (List.range ops.size).all fun i => match ops[i]? with
    | none => false
    | some o => (match o.op with | .select _ _ => false | _ => true) && o.after.all (fun e => !Region.binds .any e || decide (e.on < i)) && (List.range i).all fun j => match ops[j]? with
      | none => false
      | some p => (match p.dst, o.dst with
          | some d, some d' => d != d'
          | _, _ => true) &&
        (o.after.any (fun e => e.on == j && Region.binds .any e) || ((match p.dst with
          | some d => !(o.looksAt ops).contains d
          | none => true) && (match o.dst with
          | some d => !(p.looksAt ops).contains d
          | none => true)))

theorem drawOk_spec {ops : Array Oper} (h : drawOk ops = true) {i : Nat} {o : Oper} (hi : ops[i]? = some o) :
    (∀ e ∈ o.after, Region.binds .any e = true → e.on < i) ∧ ∀ j p, j < i → ops[j]? = some p → (p.dst ≠ none → p.dst ≠ o.dst) ∧ ((∃ e ∈ o.after, e.on = j ∧ Region.binds .any e = true) ∨ ((∀ d, p.dst = some d → d ∉ o.looksAt ops) ∧ ∀ d, o.dst = some d → d ∉ p.looksAt ops)) := by
  unfold drawOk at h
  rw [List.all_eq_true] at h
  have hlt : i < ops.size := (Array.getElem?_eq_some_iff.1 hi).1
  have h1 := h i (List.mem_range.2 hlt)
  simp only [hi, Bool.and_eq_true] at h1
  obtain ⟨⟨_, h2⟩, h3⟩ := h1
  refine ⟨fun e he hb => by simpa [hb] using (Array.all_eq_true_iff_forall_mem.1 h2) e he, fun j p hj hp => ?_⟩
  rw [List.all_eq_true] at h3
  have h4 := h3 j (List.mem_range.2 hj)
  simp only [hp, Bool.and_eq_true] at h4
  obtain ⟨h5, h6⟩ := h4
  refine ⟨fun hn he => ?_, ?_⟩
  · cases hd : p.dst with
    | none => exact hn hd
    | some d =>
      rw [hd] at he
      rw [hd, ← he] at h5
      simp at h5
  · simp only [Bool.or_eq_true, Bool.and_eq_true] at h6
    rcases h6 with h6 | ⟨h6, h7⟩
    · left
      rw [Array.any_eq_true] at h6
      obtain ⟨q, hq, h⟩ := h6
      have he : o.after[q] ∈ o.after := Array.getElem_mem hq
      generalize o.after[q] = e at h he
      simp only [Bool.and_eq_true, beq_iff_eq] at h
      exact ⟨e, he, h.1, h.2⟩
    · right
      refine ⟨fun d hd => ?_, fun d hd => ?_⟩
      · rw [hd] at h6; simpa using h6
      · rw [hd] at h7; simpa using h7

theorem countP_lt {α : Type} (p q : α → Bool) : ∀ (l : List α), (∀ x ∈ l, q x = true → p x = true) → (∃ x ∈ l, p x = true ∧ q x = false) → l.countP q < l.countP p
  | [], _, h => by obtain ⟨x, hx, _⟩ := h; cases hx
  | y :: r, h1, h2 => by
    have hle : r.countP q ≤ r.countP p := List.countP_mono_left fun x hx => h1 x (by simp [hx])
    rw [List.countP_cons, List.countP_cons]
    obtain ⟨x, hx, hp, hq⟩ := h2
    rcases List.mem_cons.1 hx with rfl | hx
    · simp [hp, hq]; omega
    · have ih := countP_lt p q r (fun x hx => h1 x (by simp [hx])) ⟨x, hx, hp, hq⟩
      have := h1 y (by simp)
      cases hqy : q y with
      | false => simp; omega
      | true => simp [this hqy, ih]

section
variable {P : Program} {G : Glob} {s0 : St}

/-- What the text's order says of each operation. -/
theorem DSteps.spec {ops : Array Oper} : ∀ {l : List Oper} {vs T T' : List AV} (k : Nat) {L : List Oper} {V : List AV} {T0 : List AV}, DSteps P G ops s0 T l vs T' → (∀ j, l[j]? = L[k + j]?) → (∀ j, vs[j]? = V[k + j]?) →
    (∀ (i : Nat) (o : Oper), L[i]? = some o → ∀ (j : Nat) (p : Oper), j < i → L[j]? = some p → p.dst ≠ none → p.dst ≠ o.dst) → Lk L V T0 (· < k) T →
    (∀ i o, l[i]? = some o → ∃ v Ti, vs[i]? = some v ∧ DStep P G ops s0 Ti o v ∧ Lk L V T0 (· < k + i) Ti) ∧ Lk L V T0 (· < k + l.length) T'
  | [], _, _, _, k, L, V, T0, .nil T, _, _, _, hT => ⟨by simp, hT⟩
  | o :: l, _, _, _, k, L, V, T0, .cons (v := v) (vs := vs) hd hrest, hl, hv, hdis, hT => by
    have hk : L[k]? = some o := by have := hl 0; simpa using this.symm
    have hvk : V[k]? = some v := by have := hv 0; simpa using this.symm
    have hT' := hT.put hk hvk (fun j p hj hjk hn => hdis k o hk j p hjk hj hn) (E' := (· < k + 1)) (fun j => by omega)
    obtain ⟨h1, h2⟩ := DSteps.spec (k + 1) hrest (fun j => by have := hl (j + 1); simp at this; rw [this]; congr 1; omega) (fun j => by have := hv (j + 1); simp at this; rw [this]; congr 1; omega) hdis hT'
    refine ⟨fun i o' hi => ?_, ?_⟩
    · cases i with
      | zero =>
        simp at hi
        subst hi
        exact ⟨v, _, rfl, hd, hT⟩
      | succ i =>
        simp at hi
        obtain ⟨v', Ti, g1, g2, g3⟩ := h1 i o' hi
        exact ⟨v', Ti, by simpa using g1, g2, by rw [show k + (i + 1) = k + 1 + i from by omega]; exact g3⟩
    · rw [List.length_cons, show k + (l.length + 1) = k + 1 + l.length from by omega]
      exact h2

theorem AWp.drawn {id : Nat} {l : List Oper} {Q : Exit → St → Prop} (vals T' : List AV) (hP : P.follows .mixedOrders = true) (hok : drawOk l.toArray = true) (hds : DSteps P G l.toArray s0 s0.slots l vals T')
    (k : Q .normal { s0 with slots := T' }) : AWp P G (.region id l.toArray true) Q s0 := by
  intro E a0 w0 hr0
  have hl : ∀ j : Nat, (l.toArray)[j]? = l[j]? := fun j => by simp
  have hdis : ∀ (i : Nat) (o : Oper), l[i]? = some o → ∀ (j : Nat) (p : Oper), j < i → l[j]? = some p → p.dst ≠ none → p.dst ≠ o.dst := fun i o hi j p hj hp =>
    ((drawOk_spec hok (by rw [hl]; exact hi)).2 j p hj (by rw [hl]; exact hp)).1
  have hdis2 : ∀ (i : Nat) (o : Oper), l[i]? = some o → ∀ (j : Nat) (p : Oper), j ≠ i → l[j]? = some p → p.dst ≠ none → p.dst ≠ o.dst := fun i o hi j p hne hp hn he => by
    rcases Nat.lt_or_ge j i with h | h
    · exact hdis i o hi j p h hp hn he
    · exact hdis j p hp i o (by omega) hi (by rw [← he]; exact hn) he.symm
  obtain ⟨hsp, hfin⟩ := DSteps.spec 0 (L := l) (V := vals) (T0 := s0.slots) hds (fun j => by simp) (fun j => by simp) hdis ⟨rfl, fun t ht => ⟨fun _ => rfl, fun j o _ hj => by omega⟩⟩
  simp only [Nat.zero_add] at hsp hfin
  let Inv : Array Bool → Act → World → Prop := fun listed a w => ∃ s, Rel E G s a w ∧ s.heap = s0.heap ∧ s.next = s0.next ∧ s.base = s0.base ∧ Lk l vals s0.slots (fun j => listed.getD j false = true) s.slots ∧
    (∀ j o, l[j]? = some o → listed.getD j false = true → ∀ e ∈ o.after, Region.binds .any e = true → listed.getD e.on false = true) ∧ listed.size = l.length
  have step : ∀ listed a w, Inv listed a w → ∀ i ∈ Region.ready .any l.toArray listed, ∀ K : Act → World → Prop, (∀ a' w', Inv (listed.setIfInBounds i true) a' w' → K a' w') → wpOp P l.toArray (lift E G Q) i K a w := by
    rintro listed a w ⟨s, hr, h1, h2, h3, hlk, hdc, hsz⟩ i hi K hK
    rw [mem_ready] at hi
    obtain ⟨hun, o, ho, hpre⟩ := hi
    rw [hl] at ho
    have hil : i < l.length := (List.getElem?_eq_some_iff.1 ho).1
    obtain ⟨v, Ti, hv, hd, hTi⟩ := hsp i o ho
    have hunl : listed.getD i false = false := by
      have : i < listed.size := by omega
      simp only [Array.getD, this, dif_pos] at hun ⊢
      exact hun
    have hag : ∀ t ∈ o.looksAt l.toArray, s.slots[t]? = Ti[t]? := fun t ht => hlk.same hTi t fun j p hj hp => by
      constructor
      · intro hlj
        rcases Nat.lt_or_ge j i with h | h
        · exact h
        · exfalso
          by_cases hji : j = i
          · subst hji; rw [hunl] at hlj; cases hlj
          · rcases ((drawOk_spec hok (i := j) (by rw [hl]; exact hj)).2 i o (by omega) (by rw [hl]; exact ho)).2 with ⟨e, he, h4, h5⟩ | ⟨_, h4⟩
            · have := hdc j p hj hlj e he h5
              rw [h4, hunl] at this
              cases this
            · exact h4 t hp ht
      · intro hji
        rcases ((drawOk_spec hok (i := i) (by rw [hl]; exact ho)).2 j p hji (by rw [hl]; exact hj)).2 with ⟨e, he, h4, h5⟩ | ⟨h4, _⟩
        · have := hpre e he h5
          rw [h4] at this
          exact this
        · exact absurd ht (h4 t hp)
    have hcase := hd s h1 h2 h3 (hlk.1.trans hTi.1.symm) hag
    have hset : ∀ j, (listed.setIfInBounds i true).getD j false = true ↔ listed.getD j false = true ∨ j = i := by
      intro j
      have hb : i < listed.size := by omega
      by_cases hj : j = i
      · subst hj
        simp [hb]
      · simp only [hj, or_false]
        rw [getD_set_ne false (fun e => hj e.symm)]
    have hnext : ∀ a' w', Rel E G (s.put o.dst v) a' w' → Inv (listed.setIfInBounds i true) a' w' := fun a' w' hr' => by
      have hp := hlk.put ho hv (fun j p hj hlj hn => hdis2 i o ho j p (fun e => by subst e; rw [hunl] at hlj; cases hlj) hj hn) (E' := fun j => (listed.setIfInBounds i true).getD j false = true) (fun j => hset j)
      have hps : (s.put o.dst v).slots = putL s.slots o.dst v := by cases hdst : o.dst <;> simp [St.put, putL]
      refine ⟨s.put o.dst v, hr', ?_, ?_, ?_, by rw [hps]; exact hp, fun j p hj hlj e he hb => ?_, by simpa using hsz⟩
      · cases hdst : o.dst <;> simp [St.put, h1]
      · cases hdst : o.dst <;> simp [St.put, h2]
      · cases hdst : o.dst <;> simp [St.put, h3]
      · rw [hset]
        left
        rcases (hset j).1 hlj with h4 | h4
        · exact hdc j p hj h4 e he hb
        · subst h4
          rw [ho] at hj
          simp only [Option.some.injEq] at hj
          subst hj
          exact hpre e he hb
    unfold wpOp
    rw [hl, ho]
    simp only
    rcases hcase with ⟨hg, hop⟩ | ⟨hg, rfl⟩
    · have hwant : Region.wanted o (yielded l.toArray a.tmps) = true := by
        unfold gwant at hg
        split at hg
        · rename_i hn
          simp [Region.wanted, hn]
        · rename_i j b hn
          split at hg
          · rename_i d hdd
            split at hg
            · rename_i c hs
              simp only [Option.some.injEq] at hg
              have hbc : b = c := by cases b <;> cases c <;> simp_all
              subst hbc
              have hy := yielded_of hr hdd hs
              simp [Region.wanted, hn, hy]
            · cases hg
            · cases hg
          · cases hg
      rw [if_pos hwant]
      exact .inl (hop E a w hr _ _ fun a' w' hr' => hK a' w' (hnext a' w' hr'))
    · have hwant : Region.wanted o (yielded l.toArray a.tmps) = false := by
        unfold gwant at hg
        split at hg
        · cases hg
        · rename_i j b hn
          split at hg
          · rename_i d hdd
            split at hg
            · rename_i c hs
              simp only [Option.some.injEq] at hg
              have hbc : c = !b := by cases b <;> cases c <;> simp_all
              subst hbc
              have hy := yielded_of hr hdd hs
              simp [Region.wanted, hn, hy]
            · rename_i cs hs
              have hy := yielded_none hr hdd hs
              simp [Region.wanted, hn, hy]
            · cases hg
          · cases hg
      rw [hwant]
      simp only [Bool.false_eq_true, if_false]
      exact hK _ _ (hnext _ _ (hr.putUndef o.dst))
  have fin : ∀ listed a w, Inv listed a w → Region.ready .any l.toArray listed = [] → lift E G Q .normal a w := by
    rintro listed a w ⟨s, hr, h1, h2, h3, hlk, hdc, hsz⟩ hnil
    have hall : ∀ m i, i < m → i < l.length → listed.getD i false = true := by
      intro m
      induction m with
      | zero => intro i hi; omega
      | succ m ih =>
        intro i him hil
        by_cases him' : i < m
        · exact ih i him' hil
        · have : i = m := by omega
          subst this
          cases hli : listed.getD i false with
          | true => rfl
          | false =>
            exfalso
            have ho : l[i]? = some l[i] := List.getElem?_eq_getElem hil
            have hmem : i ∈ Region.ready .any l.toArray listed := by
              rw [mem_ready]
              have hb : i < listed.size := by omega
              refine ⟨?_, l[i], by rw [hl]; exact ho, fun e he hbd => ?_⟩
              · simp only [Array.getD, hb, dif_pos] at hli ⊢
                exact hli
              · have hlt := (drawOk_spec hok (by rw [hl]; exact ho)).1 e he hbd
                exact ih e.on hlt (by omega)
            rw [hnil] at hmem
            cases hmem
    have hsl : s.slots = T' := by
      apply List.ext_getElem?
      intro t
      refine hlk.same hfin t fun j p hj _ => ?_
      have hjl : j < l.length := (List.getElem?_eq_some_iff.1 hj).1
      exact ⟨fun _ => hjl, fun _ => hall (j + 1) j (by omega) hjl⟩
    refine ⟨s, ?_, hr⟩
    have : s = { s0 with slots := T' } := by
      cases s
      simp only at h1 h2 h3 hsl
      subst h1 h2 h3 hsl
      rfl
    rw [this]
    exact k
  have key : ∀ fuel listed a w, Inv listed a w → ((List.range l.length).countP fun j => !listed.getD j false) ≤ fuel → wpAny P .any l.toArray (lift E G Q) fuel listed a w := by
    intro fuel
    induction fuel with
    | zero =>
      intro listed a w hI hc
      have hnil : Region.ready .any l.toArray listed = [] := by
        cases hrd : Region.ready .any l.toArray listed with
        | nil => rfl
        | cons i r =>
          exfalso
          have hi : i ∈ Region.ready .any l.toArray listed := by rw [hrd]; simp
          rw [mem_ready] at hi
          obtain ⟨hun, o, ho, _⟩ := hi
          rw [hl] at ho
          have hil : i < l.length := (List.getElem?_eq_some_iff.1 ho).1
          have hpos : 0 < (List.range l.length).countP fun j => !listed.getD j false := by
            rw [List.countP_pos_iff]
            refine ⟨i, List.mem_range.2 hil, ?_⟩
            obtain ⟨_, _, _, _, _, _, _, hsz⟩ := hI
            have hb : i < listed.size := by omega
            simp only [Array.getD, hb, dif_pos] at hun ⊢
            rw [hun]; rfl
          omega
      exact ⟨hnil, fin listed a w hI hnil⟩
    | succ fuel ih =>
      intro listed a w hI hc
      refine ⟨fun hnil => fin listed a w hI hnil, fun i hi => step listed a w hI i hi _ fun a' w' hI' => ih _ a' w' hI' ?_⟩
      rw [mem_ready] at hi
      obtain ⟨hun, o, ho, _⟩ := hi
      rw [hl] at ho
      have hil : i < l.length := (List.getElem?_eq_some_iff.1 ho).1
      obtain ⟨_, _, _, _, _, _, _, hsz⟩ := hI
      have hb : i < listed.size := by omega
      have hunl : listed.getD i false = false := by simp only [Array.getD, hb, dif_pos] at hun ⊢; exact hun
      have hlt : ((List.range l.length).countP fun j => !(listed.setIfInBounds i true).getD j false) < (List.range l.length).countP fun j => !listed.getD j false := by
        refine countP_lt _ _ _ (fun x _ hx => ?_) ⟨i, List.mem_range.2 hil, by rw [hunl]; rfl, by simp [hb]⟩
        by_cases hxi : i = x
        · subst hxi; simp [hb] at hx
        · rw [getD_set_ne false hxi] at hx; exact hx
      omega
  refine wp_region_any hP (key _ _ _ _ ?_ ?_)
  · obtain ⟨β, ro, hr⟩ := hr0
    have hg := hr.grow (w' := { w0 with drawn := w0.drawn + 1 }) (ro' := ro) rfl rfl rfl (Nat.le_refl _) (fun _ _ => rfl) (fun _ h => h) (fun _ h => .inl h)
    refine ⟨s0, ⟨β, ro, hg⟩, rfl, rfl, rfl, ⟨rfl, fun t ht => ⟨fun _ => rfl, fun j o hj hlj => ?_⟩⟩, fun j o hj hlj => ?_, by simp⟩
    · simp [Array.getD] at hlj
    · simp [Array.getD] at hlj
  · refine Nat.le_trans (List.countP_le_length) (by simp)

/-- What an operation sees of the slots T. -/
abbrev lookS (ops : Array Oper) (s0 : St) (T : List AV) (o : Oper) : St := ⟨maskF (o.looksAt ops) T, s0.heap, s0.next, s0.base⟩

theorem DStep.vs {ops : Array Oper} {T : List AV} {o : Oper} {v : AV} (hg : gwant ops (lookS ops s0 T o) o = some true) (hv : VStep P G o (lookS ops s0 T o) v) : DStep P G ops s0 T o v := by
  intro s h1 h2 h3 hlen hag
  have hm := mask_eq hlen hag
  have hst : ({ s with slots := maskF (o.looksAt ops) s.slots } : St) = lookS ops s0 T o := by rw [hm, h1, h2, h3]
  refine .inl ⟨by rw [← gwant_mask (ks := o.looksAt ops) looks_guard, hst]; exact hg, VStep.step fun E a w β ro hr => ?_⟩
  have hr' := hr.mask (o.looksAt ops)
  rw [hst] at hr'
  have := hv E a w β ro hr'
  simpa only [h1, h2] using this

theorem DStep.row {ops : Array Oper} {T : List AV} {o : Oper} {t n : Nat} {es : List (List RV)} (hg : gwant ops (lookS ops s0 T o) o = some true) (h : NRow P G o (lookS ops s0 T o) t n es) : DStep P G ops s0 T o (.rv (.sl n es)) := by
  intro s h1 h2 h3 hlen hag
  have hm := mask_eq hlen hag
  have hst : ({ s with slots := maskF (o.looksAt ops) s.slots } : St) = lookS ops s0 T o := by rw [hm, h1, h2, h3]
  refine .inl ⟨by rw [← gwant_mask (ks := o.looksAt ops) looks_guard, hst]; exact hg, OpStep.newRO (t := t) ⟨h.1, fun E a w β ro hr => ?_⟩⟩
  have hr' := hr.mask (o.looksAt ops)
  rw [hst] at hr'
  exact h.2 E a w β ro hr'

theorem DStep.call {ops : Array Oper} {T : List AV} {o : Oper} {x : Operand} {xs : Array Operand} {ts : Array TypeId} (ho : o.op = .call { callee := .value x, args := xs, argTypes := ts }) (hg : gwant ops (lookS ops s0 T o) o = some true) {f : FuncId}
    (hx : aval G (lookS ops s0 T o) x = .fn (.func f) [] []) (hcb : callable P f = true) {args : List AV} (hargs : xs.toList.map (fun y => viewA s0.heap (aval G (lookS ops s0 T o) y)) = args) (hpure : pureL args = true) {r : AV}
    (hc : ACalls P G f args [] 0 fun r1 τ => r1 = r ∧ τ = []) (hr : pureA r = true) (hb : s0.base ≤ s0.next) : DStep P G ops s0 T o r := by
  refine DStep.of hg fun s h1 h2 h3 hy => ?_
  have hops : ∀ y : Operand, (y = x ∨ y ∈ xs) → ∀ t, y = .tmp t → t ∈ o.looksAt ops := by
    intro y hy t ht
    subst ht
    refine List.mem_append_left _ (List.mem_filterMap.2 ⟨.tmp t, ?_, rfl⟩)
    rw [ho]
    simp only [Op.operands, Call.operands]
    rcases hy with h | h
    · rw [← h]; simp
    · simp [h]
  refine OpStep.callP ho (by rw [hy x (hops x (.inl rfl))]; exact hx) hcb (args := args) ?_ hpure hc hr (by rw [h2, h3]; exact hb)
  rw [← hargs]
  apply List.map_congr_left
  intro y hm
  rw [h1, hy y (hops y (.inr (by simpa using hm)))]

theorem DStep.cast {ops : Array Oper} {T : List AV} {o : Oper} {v v' : AV} (h : DStep P G ops s0 T o v) (e : v = v') : DStep P G ops s0 T o v' := e ▸ h
end
end Go.Av
