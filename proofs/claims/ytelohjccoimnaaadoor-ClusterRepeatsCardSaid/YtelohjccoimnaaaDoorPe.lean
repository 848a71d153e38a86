/- Chapter 21: Apply of the program and of the reference compute the same, and what they leave fits. Conditions: none. -/
import Derived.Test.YtelohjccoimnaaaDoorPd
import Derived.Test.YtelohjccoimnaaaDoorA8
namespace Go.Proofs.YtelohjccoimnaaaDoor
open Go Go.Av Go.Hh Go.Proofs

theorem iterN_one {A : Type} {b : Nat → A → A} {p : Nat} (h : ∀ k, k ≠ p → ∀ x, b k x = x) : ∀ (m k : Nat) (x : A), iterN b k m x = if k ≤ p ∧ p < k + m then b p x else x
  | 0, k, x => by rw [if_neg (by omega)]; rfl
  | m + 1, k, x => by
    show iterN b (k + 1) m (b k x) = _
    rw [iterN_one h m (k + 1)]
    by_cases hk : k = p
    · subst hk; rw [if_neg (by omega), if_pos (by omega)]
    · rw [h k hk]
      by_cases h1 : k ≤ p ∧ p < k + (m + 1)
      · rw [if_pos h1, if_pos (by omega)]
      · rw [if_neg h1, if_neg (by omega)]
theorem iterN_inv {A : Type} {b c : Nat → A → A} {I : A → Prop} {n : Nat} (h : ∀ k x, k < n → I x → b k x = c k x ∧ I (c k x)) : ∀ (m k : Nat) (x : A), k + m ≤ n → I x → iterN b k m x = iterN c k m x ∧ I (iterN c k m x)
  | 0, _, _, _, hx => ⟨rfl, hx⟩
  | m + 1, k, x, hk, hx => by
    obtain ⟨h1, h2⟩ := h k x (by omega) hx
    show iterN b (k + 1) m (b k x) = iterN c (k + 1) m (c k x) ∧ I (iterN c (k + 1) m (c k x))
    rw [h1]
    exact iterN_inv h m (k + 1) (c k x) (by omega) h2

/-- The conditions of a value. -/
structure VOk (v : Val) : Prop where
  kinds : v.kind = 0 ∨ v.kind = 4 ∨ v.kind = 1 ∨ v.kind = 2 ∨ v.kind = 3
  n0 : v.kind = 0 ∨ v.kind = 4 → v.n = 0
  n1 : v.kind = 1 → 0 ≤ v.n ∧ v.n ≤ 1
  n2 : v.kind = 2 → -1099511627776 ≤ v.n ∧ v.n ≤ 1099511627776
  n3 : v.kind = 3 → 0 ≤ v.n ∧ v.n ≤ 63
  size : v.s.size ≤ 60
  text : v.s = ⟨#[]⟩ ∨ v.kind = 4
theorem bif_zero {c : Bool} {n x : Int} (hn : n ≠ 0) : (bif c then n else x) = 0 ↔ c = false ∧ x = 0 := by cases c <;> simp [hn]
theorem bif_zero' {c : Bool} {n x : Int} (hn : n ≠ 0) : (bif c then x else n) = 0 ↔ c = true ∧ x = 0 := by cases c <;> simp [hn]
theorem vcheck_iff (v : Val) : rvCheckM v = 0 ↔ VOk v := by
  have hs : ∀ (a b : Int), a ≠ 0 → b ≠ 0 → ∀ (p : Bool), ((if decide ((v.s.size : Int) > 60) = true then a else if p = true then b else (0 : Int)) = 0 ↔ v.s.size ≤ 60 ∧ p = false) := by
    intro a b ha hb p
    by_cases h : v.s.size ≤ 60
    · rw [if_neg (by simp; omega)]
      cases p <;> simp [hb, h]
    · rw [if_pos (by simp; omega)]
      simp [ha, h]
  constructor
  · intro h
    unfold rvCheckM at h
    rw [bif_zero' (n := 7) (by decide), bif_zero (n := 2) (by decide), bif_zero (n := 3) (by decide), bif_zero (n := 4) (by decide)] at h
    obtain ⟨hk, hn, h1, h2, _⟩ := h
    simp only [Bool.or_eq_true, beq_iff_eq, decide_eq_false_iff_not, Bool.or_eq_false_iff] at hk hn h1
    have ht : v.s = ⟨#[]⟩ ∨ v.kind = 4 := by
      rw [Bool.and_eq_false_iff] at h2
      rcases h2 with h2 | h2
      · exact .inl (beqS_true.1 (by simpa using h2))
      · exact .inr (by simpa using h2)
    rcases hk with (hk | hk) | hk | hk | hk <;> simp [hk] at hn <;> constructor <;> first | assumption | omega
  · intro h
    unfold rvCheckM
    simp only [cond_eq_ite]
    have ht : (!beqS v.s (⟨#[]⟩) && (v.kind != 4)) = false := by
      rcases h.text with ht | ht
      · rw [ht, beqS_refl]; rfl
      · rw [ht]; simp
    rw [if_pos (by rcases h.kinds with hk | hk | hk | hk | hk <;> simp [hk])]
    have h60 := h.size
    rw [if_neg, (hs 3 4 (by decide) (by decide) _).2 ⟨h.size, ht⟩]
    have h0 := h.n0
    have h1 := h.n1
    have h2 := h.n2
    have h3 := h.n3
    rcases h.kinds with hk | hk | hk | hk | hk <;> simp [hk] at h0 h1 h2 h3 ⊢ <;> omega

/-- The conditions of a value that fits. -/
structure FOk (a : Attr) (v : Val) : Prop where
  dfn : rdefM a = 0
  ok : VOk v
  kind : v.kind = a.kind
  range : v.kind = 2 → a.min ≤ v.n ∧ v.n ≤ a.max
  place : v.kind = 3 → v.n < a.enum.length
theorem fits_iff (a : Attr) (v : Val) : rfitsM a v = 0 ↔ FOk a v := by
  constructor
  · intro h
    unfold rfitsM at h
    simp only [cond_eq_ite] at h
    split at h
    · rename_i h1; simp [h] at h1
    rename_i h1
    split at h
    · rename_i h2; simp [h] at h2
    rename_i h2
    split at h
    · cases h
    rename_i h3
    split at h
    · cases h
    rename_i h4
    simp at h1 h2 h3 h4
    refine ⟨h1, (vcheck_iff v).1 h2, h3, fun hk => ?_, fun hk => ?_⟩
    · have := h4.1 hk; omega
    · have := h4.2 hk; omega
  · intro h
    unfold rfitsM
    rw [h.dfn, (vcheck_iff v).2 h.ok, h.kind]
    have h1 := h.range
    have h2 := h.place
    rw [h.kind] at h1 h2
    simp only [bne_self_eq_false, cond_false]
    rw [bif_zero (n := 2) (by decide)]
    simp
    exact ⟨fun hk => by have := h1 hk; omega, fun hk => by have := h2 hk; omega⟩
/-- What a good description says of its kind and its range. -/
theorem def_range {a : Attr} (h : rdefM a = 0) : 1 ≤ a.kind ∧ a.kind ≤ 4 ∧ (a.kind = 2 → -1099511627776 ≤ a.min ∧ a.min ≤ a.max ∧ a.max ≤ 1099511627776) := by
  unfold rdefM at h
  simp only [cond_eq_ite] at h
  split at h
  · cases h
  split at h
  · cases h
  rename_i h1
  simp at h1
  refine ⟨h1.1, h1.2, fun hk => ?_⟩
  simp only [hk] at h
  simp only [beq_self_eq_true, if_true] at h
  split at h
  · rename_i h2
    simp at h2
    omega
  · cases h

theorem limit_eq (a : Attr) (v : Val) : vLimitM a v = rLimitM a v := by
  unfold vLimitM rLimitM
  rw [def_eq]
  obtain ⟨k, n, s⟩ := v
  simp only [cond_eq_ite]
  by_cases h : rdefM a = 0 ∧ a.kind = 2 ∧ k = 2
  · obtain ⟨h1, h2, h3⟩ := h
    simp [h1, h2, h3]
    unfold clampM
    simp only [cond_eq_ite, Bool.or_eq_true, decide_eq_true_eq]
    split <;> split <;> (try split) <;> omega
  · rw [if_neg (by simp; omega), if_pos (by simp; omega)]
/-- A value that fits is not limited. -/
theorem limit_fix {a : Attr} {v : Val} (h : FOk a v) : rLimitM a v = v := by
  unfold rLimitM
  obtain ⟨k, n, s⟩ := v
  simp only [cond_eq_ite]
  split
  · rfl
  · rename_i h1
    simp at h1
    have := h.range h1.2
    simp at this
    congr 1
    simp only [decide_eq_true_eq]
    split <;> split <;> omega
/-- A limited number of the right kind fits. -/
theorem limit_fits {a : Attr} {v : Val} (hd : rdefM a = 0) (ha : a.kind = 2) (hk : v.kind = 2) (hs : v.s = ⟨#[]⟩) : FOk a (rLimitM a v) := by
  obtain ⟨_, _, hr⟩ := def_range hd
  obtain ⟨hr1, hr2, hr3⟩ := hr ha
  obtain ⟨k, n, s⟩ := v
  simp only at hk hs
  subst hk; subst hs
  have : ∃ n', rLimitM a ⟨2, n, ⟨#[]⟩⟩ = ⟨2, n', ⟨#[]⟩⟩ ∧ a.min ≤ n' ∧ n' ≤ a.max := by
    refine ⟨_, by unfold rLimitM; simp [hd, ha, cond_eq_ite]; rfl, ?_, ?_⟩ <;> split <;> (try split) <;> omega
  obtain ⟨n', h1, h2, h3⟩ := this
  rw [h1]
  exact ⟨hd, ⟨.inr (.inr (.inr (.inl rfl))), by simp, by simp, fun _ => ⟨by simp only; omega, by simp only; omega⟩, by simp, by show ByteArray.size ⟨#[]⟩ ≤ 60; decide, .inl rfl⟩, ha.symm, fun _ => ⟨h2, h3⟩, by simp⟩

theorem wrap_fit {n : Int} (h1 : -9223372036854775808 ≤ n) (h2 : n ≤ 9223372036854775807) : IntKind.i64.wrap n = n := by
  simp [IntKind.wrap, IntKind.bits, IntKind.signed]
  omega
/-- What an accepted effect says. -/
structure EOk (c : Cluster) (b : Attr) (x : Effect) (p : Nat) (a : Attr) : Prop where
  place : placeM c x.attr = (p : Int)
  at_ : c.attrs[p]? = some a
  name : a.name = x.attr
  kinds : x.kind = 1 ∨ x.kind = 2 ∨ x.kind = 3 ∨ x.kind = 4
  set : x.kind = 1 → a.kind ≠ 4 ∧ FOk a ⟨a.kind, x.n, ⟨#[]⟩⟩
  param : x.kind = 2 → b.kind = a.kind ∧ b.enum = a.enum
  add : x.kind = 3 → a.kind = 2 ∧ -1099511627776 ≤ x.n ∧ x.n ≤ 1099511627776
  toggle : x.kind = 4 → a.kind = 1
theorem effect_ok {c : Cluster} {b : Attr} {x : Effect} (h : reffectM c b x = 0) : ∃ p a, EOk c b x p a := by
  have hp := reffect_place h
  rcases place_cases c x.attr with ⟨h1, _⟩ | ⟨p, a, h1, h2, h3, _⟩
  · rw [h1] at hp; exact absurd hp (by decide)
  have ha : rattrM c x.attr = (a, true) := by
    unfold rattrM
    rw [h1]
    have : decide ((p : Int) < 0) = false := decide_eq_false (by omega)
    rw [this]
    simp only [cond_false, Int.toNat_natCast, h2]
  unfold reffectM at h
  rw [ha] at h
  simp only [cond_eq_ite] at h
  split at h
  · cases h
  rename_i g1
  split at h
  · cases h
  split at h
  · cases h
  split at h
  · cases h
  rename_i g2
  split at h
  · cases h
  rename_i g3
  simp at g1 g3
  have hk : x.kind = 1 ∨ x.kind = 2 ∨ x.kind = 3 ∨ x.kind = 4 := by omega
  simp only [Bool.not_eq_true', Bool.not_eq_false] at g2
  unfold rsuitsM at g2
  rw [sameNames_eq] at g2
  refine ⟨p, a, h1, h2, h3, hk, fun k => ?_, fun k => ?_, fun k => ?_, fun k => ?_⟩
  · simp [k] at g2
    exact ⟨g2.1, (fits_iff _ _).1 g2.2⟩
  · simp [k] at g2
    exact g2
  · simp [k] at g2
    have := g3 k
    exact ⟨g2, by omega, by omega⟩
  · simp [k] at g2
    exact g2
/-- An effect on a value that fits: both compute the same, and it fits. -/
theorem after_eq {c : Cluster} {b : Attr} {x : Effect} {p : Nat} {a : Attr} {q v : Val} (h : EOk c b x p a) (hv : FOk a v) : afterM x a q v = doneM x a q v := by
  unfold afterM doneM
  rw [limit_eq]
  rcases h.kinds with k | k | k | k
  · obtain ⟨h1, h2⟩ := h.set k
    have hs : v.s = ⟨#[]⟩ := hv.ok.text.resolve_right (by rw [hv.kind]; exact h1)
    simp [k, hv.kind, hs]
  · simp [k]
  · obtain ⟨h1, h2, h3⟩ := h.add k
    have hk : v.kind = 2 := hv.kind.trans h1
    have hn := hv.ok.n2 hk
    obtain ⟨_, _, hr⟩ := def_range hv.dfn
    have hr := hr h1
    simp [k]
    unfold addM
    rw [wrap_fit (by omega) (by omega)]
    have : (((decide (v.n < 0)) == (decide (x.n < 0))) && !((decide (v.n + x.n < 0)) == (decide (v.n < 0)))) = false := by
      by_cases g1 : v.n < 0 <;> by_cases g2 : x.n < 0
      · rw [decide_eq_true g1, decide_eq_true g2, decide_eq_true (show v.n + x.n < 0 by omega)]; rfl
      · rw [decide_eq_true g1, decide_eq_false g2]; rfl
      · rw [decide_eq_false g1, decide_eq_true g2]; rfl
      · rw [decide_eq_false g1, decide_eq_false g2, decide_eq_false (show ¬ v.n + x.n < 0 by omega)]; rfl
    rw [this, cond_false]
    unfold rLimitM satM
    simp [hv.dfn, h1, hk, cond_eq_ite]
    split <;> split <;> (try split) <;> (try split) <;> (try split) <;> omega
  · simp [k]
theorem done_fits {c : Cluster} {b : Attr} {x : Effect} {p : Nat} {a : Attr} {q v : Val} (h : EOk c b x p a) (hv : FOk a v) (hq : b.kind ≠ 0 → FOk b q) : FOk a (doneM x a q v) := by
  unfold doneM
  obtain ⟨hd1, hd2, hr⟩ := def_range hv.dfn
  rcases h.kinds with k | k | k | k
  · obtain ⟨h1, h2⟩ := h.set k
    have hs : v.s = ⟨#[]⟩ := hv.ok.text.resolve_right (by rw [hv.kind]; exact h1)
    simp [k, hv.kind, hs]
    rw [limit_fix h2]; exact h2
  · obtain ⟨h1, h2⟩ := h.param k
    have hq := hq (by omega)
    simp [k]
    have hqe : (⟨q.kind, q.n, q.s⟩ : Val) = q := rfl
    rw [hqe]
    by_cases h3 : a.kind = 2
    · exact limit_fits hv.dfn h3 (by rw [hq.kind, h1, h3]) (hq.ok.text.resolve_right (by rw [hq.kind, h1, h3]; decide))
    · have : FOk a q := ⟨hv.dfn, hq.ok, hq.kind.trans h1, fun g => absurd (by rw [← h1, ← hq.kind]; exact g) h3, fun g => by rw [← h2]; exact hq.place g⟩
      rw [limit_fix this]; exact this
  · obtain ⟨h1, h2, h3⟩ := h.add k
    simp [k]
    exact limit_fits hv.dfn h1 (hv.kind.trans h1) (hv.ok.text.resolve_right (by rw [hv.kind, h1]; decide))
  · have h1 := h.toggle k
    have hk : v.kind = 1 := hv.kind.trans h1
    have hn := hv.ok.n1 hk
    have hs : v.s = ⟨#[]⟩ := hv.ok.text.resolve_right (by rw [hk]; decide)
    simp [k, hk, hs]
    rw [wrap_fit (by omega) (by omega)]
    have : FOk a ⟨1, 1 - v.n, ⟨#[]⟩⟩ := ⟨hv.dfn, ⟨.inr (.inr (.inl rfl)), by simp, fun _ => ⟨by simp only; omega, by simp only; omega⟩, by simp, by simp, by show ByteArray.size ⟨#[]⟩ ≤ 60; decide, .inl rfl⟩, h1.symm, by simp, by simp⟩
    rw [limit_fix this]; exact this

/-- Names of a checked cluster's attributes differ. -/
theorem names_ne {c : Cluster} (h : rcheckM c = 0) {i j : Nat} {a b : Attr} (ha : c.attrs[i]? = some a) (hb : c.attrs[j]? = some b) (hn : a.name = b.name) : i = j := by
  have key : ∀ (i j : Nat) (a b : Attr), c.attrs[i]? = some a → c.attrs[j]? = some b → a.name = b.name → i < j → False := by
    intro i j a b ha hb hn hij
    have h1 := (rcheck_one h).2.2.1 j (getElem_lt hb)
    unfold rcheckM_B1 at h1
    simp only [hb, cond_eq_ite] at h1
    split at h1
    · cases h1
    split at h1
    · cases h1
    rename_i h2
    simp only [decide_eq_true_eq] at h2
    rcases place_cases c b.name with ⟨h3, h4⟩ | ⟨p, d, h3, _, _, h4⟩
    · exact h4 j b hb rfl
    · rw [h3] at h2
      exact h4 i a (by omega) ha hn
  rcases Nat.lt_trichotomy i j with h1 | h1 | h1
  · exact (key i j a b ha hb hn h1).elim
  · exact h1
  · exact (key j i b a hb ha hn.symm h1).elim
/-- The inner loop sets the value at the effect's place. -/
theorem inner_eq {c : Cluster} {command : ByteArray} {param : Val} {vals : List Val} {b : Attr} {x : Effect} {p : Nat} {a : Attr} (h : rcheckM c = 0) (he : EOk c b x p a) (out : List Val) :
    applyM_L3 c command param vals x out = (match out[p]? with | some v => out.set p (afterM x a param v) | none => out) := by
  unfold applyM_L3
  rw [iterN_one (p := p) (fun k hk y => by
    unfold applyM_B3
    cases hc : c.attrs[k]? with
    | none => rfl
    | some d =>
      simp only
      rw [beqS_false.2 (fun hn => hk (names_ne h hc he.at_ (hn.trans he.name.symm)))]
      rfl), if_pos ⟨Nat.zero_le _, by have := getElem_lt he.at_; omega⟩]
  unfold applyM_B3
  simp only [he.at_]
  rw [beqS_true.2 he.name]
  cases out[p]? <;> rfl
/-- All values fit. -/
def AllFit (c : Cluster) (out : List Val) : Prop := ∀ (k : Nat) (a : Attr) (v : Val), c.attrs[k]? = some a → out[k]? = some v → FOk a v
theorem step_eq {c : Cluster} {command : ByteArray} {param : Val} {vals : List Val} (h : rcheckM c = 0) (hc : (rcommandM c command).2 = true) (hq : ((rcommandM c command).1).param.kind ≠ 0 → FOk ((rcommandM c command).1).param param)
    (k : Nat) (out : List Val) (hk : k < ((rcommandM c command).1).effects.length) (hf : AllFit c out) :
    applyM_B2 c command param vals k out = rapplyM_B2 c command param vals k out ∧ AllFit c (rapplyM_B2 c command param vals k out) := by
  obtain ⟨i, hi⟩ := rcommand_mem hc
  have hx := List.getElem?_eq_getElem hk
  obtain ⟨p, a, he⟩ := effect_ok (rcheck_effect h hi hx)
  unfold applyM_B2 rapplyM_B2
  rw [command_eq, hx]
  simp only
  rw [inner_eq h he, he.place, Int.toNat_natCast, he.at_]
  simp only
  cases ho : out[p]? with
  | none => exact ⟨rfl, hf⟩
  | some v =>
    have hv := hf p a v he.at_ ho
    simp only
    rw [after_eq he hv]
    refine ⟨rfl, fun j d w hd hw => ?_⟩
    rw [List.getElem?_set] at hw
    split at hw
    · rename_i hj
      subst hj
      rw [if_pos (getElem_lt ho)] at hw
      cases hw
      rw [he.at_] at hd
      cases hd
      exact done_fits he hv hq
    · exact hf j d w hd hw
theorem fold_eq {c : Cluster} {command : ByteArray} {param : Val} {vals : List Val} (h : rcheckM c = 0) (hc : (rcommandM c command).2 = true) (hq : ((rcommandM c command).1).param.kind ≠ 0 → FOk ((rcommandM c command).1).param param)
    {out : List Val} (hf : AllFit c out) :
    applyM_L2 c command param vals out = rapplyM_L2 c command param vals out ∧ AllFit c (rapplyM_L2 c command param vals out) := by
  unfold applyM_L2 rapplyM_L2
  rw [command_eq]
  exact iterN_inv (n := ((rcommandM c command).1).effects.length) (step_eq h hc hq) _ _ _ (by omega) hf
/-- Collecting values that fit. -/
theorem collect {c : Cluster} {command : ByteArray} {param : Val} {vals : List Val} (hl : vals.length = c.attrs.length) : ∀ (m k : Nat), k + m = vals.length →
    loopS (rapplyM_B1 c command param vals) k m (vals.take k) = (match scanN (applyM_B1 c command param vals) k m with | some r => .inl r | none => .inr vals)
  | 0, k, hk => by
    simp only [loopS, scanN]
    rw [List.take_of_length_le (by omega)]
  | m + 1, k, hk => by
    have h1 : vals[k]? = some vals[k] := List.getElem?_eq_getElem (by omega)
    have h2 : c.attrs[k]? = some c.attrs[k] := List.getElem?_eq_getElem (by omega)
    have ht : vals.take k ++ [vals[k]] = vals.take (k + 1) := by rw [List.take_add_one, h1]; rfl
    simp only [loopS, scanN]
    unfold applyM_B1 rapplyM_B1
    simp only [h1, h2]
    rw [fits_eq]
    by_cases hf : rfitsM c.attrs[k] vals[k] = 0
    · simp only [hf, bne_self_eq_false, cond_false]
      rw [ht]
      exact collect (command := command) (param := param) hl m (k + 1) (by omega)
    · rw [show (rfitsM c.attrs[k] vals[k] != 0) = true by simpa using hf]
      rfl
theorem accepts_eq (d : Command) (v : Val) : acceptsM d v = (bif (d.param.kind == 0) then (bif !((v.kind == 0) && ((v.n == 0) && (beqS v.s (⟨#[]⟩) && true))) then 11 else 0) else rfitsM d.param v) := by
  unfold acceptsM
  rw [fits_eq]
  by_cases h : d.param.kind = 0
  · simp [h]
  · rw [show (d.param.kind == 0) = false by simpa using h, show (d.param.kind != 0) = true by simpa using h]
    rfl
/-- The shape of Apply. -/
theorem apply_cases (c : Cluster) (command : ByteArray) (param : Val) (vals : List Val) :
    (∃ n : Int, n ≠ 0 ∧ applyM c command param vals = ([], n) ∧ rapplyM c command param vals = ([], n)) ∨
    (rcheckM c = 0 ∧ (rcommandM c command).2 = true ∧ acceptsM ((rcommandM c command).1) param = 0 ∧ vals.length = c.attrs.length ∧ AllFit c vals ∧
      applyM c command param vals = (applyM_L2 c command param vals vals, 0) ∧ rapplyM c command param vals = (rapplyM_L2 c command param vals vals, 0)) := by
  unfold applyM rapplyM
  rw [check_eq, command_eq]
  by_cases h1 : rcheckM c ≠ 0
  · rw [show (rcheckM c != 0) = true by simpa using h1]
    exact .inl ⟨_, h1, rfl, rfl⟩
  have h1 : rcheckM c = 0 := Decidable.not_not.1 h1
  rw [show (rcheckM c != 0) = false by simpa using h1]
  simp only [cond_false]
  cases h2 : (rcommandM c command).2 with
  | false => exact .inl ⟨8, by decide, rfl, rfl⟩
  | true =>
    simp only [Bool.not_true, cond_false]
    have hacc := accepts_eq ((rcommandM c command).1) param
    by_cases h3 : acceptsM ((rcommandM c command).1) param ≠ 0
    · rw [show (acceptsM ((rcommandM c command).1) param != 0) = true by simpa using h3]
      refine .inl ⟨_, h3, rfl, ?_⟩
      rw [hacc] at h3 ⊢
      by_cases hk : ((rcommandM c command).1).param.kind = 0
      · simp only [hk, beq_self_eq_true, cond_true] at h3 ⊢
        cases hb : ((param.kind == 0) && ((param.n == 0) && (beqS param.s (⟨#[]⟩) && true))) with
        | true => rw [hb] at h3; exact absurd rfl h3
        | false => rfl
      · rw [show (((rcommandM c command).1).param.kind == 0) = false by simpa using hk] at h3 ⊢
        simp only [cond_false] at h3 ⊢
        rw [show (rfitsM ((rcommandM c command).1).param param != 0) = true by simpa using h3]
        rfl
    have h3 : acceptsM ((rcommandM c command).1) param = 0 := Decidable.not_not.1 h3
    have h4 : (bif ((((rcommandM c command).1).param).kind == 0) then !(!((param.kind == 0) && ((param.n == 0) && (beqS param.s (⟨#[]⟩) && true)))) else !(rfitsM (((rcommandM c command).1).param) param != 0)) = true := by
      rw [hacc] at h3
      by_cases hk : ((rcommandM c command).1).param.kind = 0
      · simp only [hk, beq_self_eq_true, cond_true] at h3 ⊢
        cases hb : ((param.kind == 0) && ((param.n == 0) && (beqS param.s (⟨#[]⟩) && true))) with
        | true => rfl
        | false => rw [hb] at h3; cases h3
      · rw [show (((rcommandM c command).1).param.kind == 0) = false by simpa using hk] at h3 ⊢
        simp only [cond_false] at h3 ⊢
        rw [h3]; rfl
    rw [h4]
    simp only [h3, bne_self_eq_false, cond_false, cond_true]
    by_cases h5 : vals.length ≠ c.attrs.length
    · rw [show (((vals.length : Nat) : Int) != ((c.attrs.length : Nat) : Int)) = true by simp; omega]
      exact .inl ⟨1, by decide, rfl, rfl⟩
    have h5 : vals.length = c.attrs.length := Decidable.not_not.1 h5
    rw [show (((vals.length : Nat) : Int) != ((c.attrs.length : Nat) : Int)) = false by simp; omega]
    simp only [cond_false]
    have hcol := collect (c := c) (command := command) (param := param) (vals := vals) h5 vals.length 0 (by omega)
    unfold rapplyM_L1
    rw [List.take_zero] at hcol
    rw [hcol]
    unfold applyM_L1
    cases h6 : scanN (applyM_B1 c command param vals) 0 vals.length with
    | some r =>
      obtain ⟨k, _, _, hk, _⟩ := scanN_get h6
      unfold applyM_B1 at hk
      simp only [cond_eq_ite] at hk
      split at hk
      · split at hk
        · split at hk
          · cases hk
            exact .inl ⟨1, by decide, rfl, rfl⟩
          · cases hk
        · cases hk
      · cases hk
    | none =>
      refine .inr ⟨h1, trivial, trivial, h5, fun k a v ha hv => ?_, rfl, rfl⟩
      have := scan_at h6 (getElem_lt hv)
      unfold applyM_B1 at this
      simp only [hv, ha, cond_eq_ite] at this
      split at this
      · cases this
      · rename_i g
        rw [fits_eq] at g
        exact (fits_iff a v).1 (by simpa using g)
theorem accept_fits {d : Command} {v : Val} (h : acceptsM d v = 0) (hk : d.param.kind ≠ 0) : FOk d.param v := by
  rw [accepts_eq, show (d.param.kind == 0) = false by simpa using hk] at h
  exact (fits_iff _ _).1 h
theorem apply_eq (c : Cluster) (command : ByteArray) (param : Val) (vals : List Val) : applyM c command param vals = rapplyM c command param vals := by
  rcases apply_cases c command param vals with ⟨n, _, h1, h2⟩ | ⟨h1, h2, h3, _, h5, h6, h7⟩
  · rw [h1, h2]
  · rw [h6, h7, (fold_eq h1 h2 (accept_fits h3) h5).1]
end Go.Proofs.YtelohjccoimnaaaDoor
