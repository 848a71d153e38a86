/- Chapter 24: what a valid home says of its clusters; finding. Conditions: none. -/
import Derived.Test.YtnnlaccdendkpaaVB8
import Derived.Laws.RangeString
import Derived.Laws.RangeAny
namespace Go.Proofs.Ytnnlaccdendkpaa
open Go Go.Av Go.Hh Go.Proofs
open Classical in
theorem bz {a : Int} (h : (a != 0) = false) : a = 0 := by simpa using h
theorem getD_zero {o : Option Int} {d : Int} (h : o.getD d = 0) (hn : ∀ r, o = some r → r ≠ 0) : o = none ∧ d = 0 := by
 cases o with
 | none => exact ⟨rfl, h⟩
 | some r => exact absurd h (hn r rfl)
theorem scan_at {R : Type} {b : Nat → Option R} {n : Nat} (h : scanN b 0 n = none) {j : Nat} (hj : j < n) : b j = none := scanN_all.1 h j (Nat.zero_le _) (by omega)
theorem getElem_lt {α : Type} {l : List α} {k : Nat} {e : α} (h : l[k]? = some e) : k < l.length := (List.getElem?_eq_some_iff.1 h).1
theorem valid_scan (x : ByteArray) : ∀ (m k : Nat), x.size - k ≤ m → scanR x (validM_B1 x) m k = scanN (rvalidM_B1 x) k (x.size - k)
 | 0, k, h => by rw [show x.size - k = 0 from by omega]; rfl
 | m + 1, k, h => by
  by_cases hk : k < x.size
  ·simp only [scanR, hk, if_true]
   rw [show x.size - k = (x.size - (k + 1)) + 1 from by omega]
   simp only [scanN]
   have hl : x.data.toList[k]? = some (x[k]'hk) := by
    have : k < x.data.toList.length := by simpa using hk
    rw [List.getElem?_eq_getElem this]; rfl
   have hb : validM_B1 x k = rvalidM_B1 x k ∧ (validM_B1 x k = none → (Utf8.decode x k).2 = 1) := by
    rcases Nat.lt_or_ge (x[k]'hk).toNat 128 with ha | ha
    ·have hd := decode_ascii x k hk ha
     constructor
     ·unfold validM_B1 rvalidM_B1 letterM
      simp only [hl, hd]
     ·intro _; rw [hd]
    ·have hd := (decode_high x k hk ha).1
     have e1 : validM_B1 x k = some false := by
      unfold validM_B1 letterM
      generalize (Utf8.decode x k).1 = c at hd
      have h1 : decide ((c : Int) ≤ 122) = false := decide_eq_false (by omega)
      have h2 : ((c : Int) != 95) = true := by simp; omega
      have h3 : ((c : Int) != 45) = true := by simp; omega
      have h4 : decide ((c : Int) > 57) = true := decide_eq_true (by omega)
      simp only [h1, h2, h3, h4, Bool.and_false, Bool.not_false, Bool.and_true, Bool.or_true, Bool.true_and, cond_true]
     have e2 : rvalidM_B1 x k = some false := by
      unfold rvalidM_B1
      rw [hl]
      simp only
      generalize (x[k]'hk).toNat = c at ha
      have h1 : decide ((c : Int) ≤ 122) = false := decide_eq_false (by omega)
      have h2 : ((c : Int) != 95) = true := by simp; omega
      have h3 : ((c : Int) != 45) = true := by simp; omega
      have h4 : decide ((c : Int) > 57) = true := decide_eq_true (by omega)
      simp only [h1, h2, h3, h4, Bool.and_false, Bool.not_false, Bool.and_true, Bool.or_true, Bool.true_and, cond_true]
     exact ⟨e1.trans e2.symm, fun h => by rw [e1] at h; cases h⟩
   rw [hb.1]
   cases hr : rvalidM_B1 x k with
   | some r => rfl
   | none =>
    simp only
    rw [hb.2 (hb.1.trans hr)]
    exact valid_scan x m (k + 1) (by omega)
  ·simp [scanR, hk, show x.size - k = 0 from by omega, scanN]
theorem valid_eq (x : ByteArray) : validM x = rvalidM x := by
 unfold validM rvalidM
 have : validM_L1 x = rvalidM_L1 x := by
  unfold validM_L1 rvalidM_L1
  rw [valid_scan x x.size 0 (by omega)]
  rfl
 rw [this]
theorem beqS_false {a b : ByteArray} : beqS a b = false ↔ a ≠ b := by rw [beqS_eq]; simp
theorem mem_take_iff {α : Type} {l : List α} {k : Nat} {x : α} : x ∈ l.take k ↔ ∃ i, i < k ∧ l[i]? = some x := by
 rw [List.mem_iff_getElem?]
 constructor
 ·rintro ⟨i, hi⟩
  rw [List.getElem?_take] at hi
  split at hi
  ·rename_i h; exact ⟨i, h, hi⟩
  ·cases hi
 ·rintro ⟨i, h, hi⟩
  exact ⟨i, by rw [List.getElem?_take, if_pos h]; exact hi⟩
theorem ite_iff {α : Type} {p q : Prop} [Decidable p] [Decidable q] {a b : α} (h : p ↔ q) : (if p then a else b) = if q then a else b := by
 by_cases hp : p
 ·rw [if_pos hp, if_pos (h.1 hp)]
 ·rw [if_neg hp, if_neg fun hq => hp (h.2 hq)]
theorem ite_swap {α : Type} {p q : Prop} [Decidable p] [Decidable q] {a b : α} (h : p ↔ ¬ q) : (if p then a else b) = if q then b else a := by
 by_cases hq : q
 ·rw [if_pos hq, if_neg fun hp => h.1 hp hq]
 ·rw [if_neg hq, if_pos (h.2 hq)]
theorem vcheck_eq (v : Val) : vCheckM v = rvCheckM v := by
 unfold vCheckM rvCheckM inRangeM
 simp only [cond_eq_ite]
 by_cases h0 : v.kind = 0
 ·simp [h0]
  apply ite_swap
  omega
 by_cases h4 : v.kind = 4
 ·simp [h4]
  apply ite_swap
  omega
 by_cases h1 : v.kind = 1
 ·simp [h1]
  apply ite_iff
  omega
 by_cases h2 : v.kind = 2
 ·simp [h2]
 by_cases h3 : v.kind = 3
 ·simp [h3]
 ·simp [h0, h1, h2, h3, h4]
theorem scan_ne {b : Nat → Option Int} {n : Nat} (h : ∀ k r, b k = some r → r ≠ 0) : ∀ r, scanN b 0 n = some r → r ≠ 0 := fun r hr => by
 obtain ⟨k, _, _, hk, _⟩ := scanN_get hr
 exact h k r hk
theorem all_spec {l : List Cluster} (h : allM l = 0) : l.length ≤ 256 ∧ (∀ (k : Nat) (c : Cluster), l[k]? = some c → checkM c = 0) ∧ ∀ (k j : Nat) (c d : Cluster), l[k]? = some c → l[j]? = some d → j < k → beqS d.name c.name = false := by
 unfold allM at h
 simp only [cond_eq_ite] at h
 split at h
 ·cases h
 rename_i h0
 obtain ⟨h1, _⟩ := getD_zero h (scan_ne fun k r hk => by
  unfold allM_B1 at hk
  simp only [cond_eq_ite] at hk
  split at hk
  ·rename_i e he
   split at hk
   ·rename_i hq
    simp only [Option.some.injEq] at hk
    subst hk
    simpa using hq
   ·obtain ⟨j, _, _, hj, _⟩ := scanN_get hk
    unfold allM_B2 at hj
    simp only [cond_eq_ite] at hj
    split at hj
    ·split at hj
     ·simp only [Option.some.injEq] at hj
      subst hj; decide
     ·cases hj
    ·cases hj
  ·cases hk)
 have key : ∀ (k : Nat) (c : Cluster), l[k]? = some c → checkM c = 0 ∧ allM_L2 l k c = none := by
  intro k c hc
  have := scan_at h1 (getElem_lt hc)
  unfold allM_B1 at this
  simp only [hc, cond_eq_ite] at this
  split at this
  ·cases this
  ·rename_i hq
   exact ⟨by simpa using hq, this⟩
 refine ⟨by simp at h0; omega, fun k c hc => (key k c hc).1, fun k j c d hc hd hjk => ?_⟩
 have h2 := (key k c hc).2
 have hkl := getElem_lt hc
 have := scan_at (n := (l.take k).length) (b := allM_B2 l k c) h2 (j := j) (by rw [List.length_take]; omega)
 unfold allM_B2 at this
 rw [List.getElem?_take, if_pos hjk, hd] at this
 simp only [cond_eq_ite] at this
 split at this
 ·cases this
 ·rename_i hq
  simpa using hq
theorem all_names {l : List Cluster} (h : allM l = 0) : ∀ (k j : Nat) (c d : Cluster), l[k]? = some c → l[j]? = some d → j < k → d.name ≠ c.name := by
 intro k j c d hk hj hlt
 exact beqS_false.1 ((all_spec h).2.2 k j c d hk hj hlt)
theorem mget_map {l : List Cluster} {x : ByteArray} : (mget (l.map fun c => (c.name, c)) x = none ∧ ∀ c ∈ l, c.name ≠ x) ∨ ∃ (j : Nat) (c : Cluster), mget (l.map fun c => (c.name, c)) x = some c ∧ l[j]? = some c ∧ c.name = x ∧ ∀ (i : Nat) (d : Cluster), i < j → l[i]? = some d → d.name ≠ x := by
 induction l with
 | nil => exact .inl ⟨rfl, by simp⟩
 | cons e r ih =>
  by_cases he : e.name = x
  ·exact .inr ⟨0, e, by simp [mget, he], rfl, he, fun i d hi => absurd hi (by omega)⟩
  ·rcases ih with ⟨h1, h2⟩ | ⟨j, c, h1, h2, h3, h4⟩
   ·exact .inl ⟨by simpa [mget, he] using h1, fun c hc => by rcases List.mem_cons.1 hc with rfl | hc; exact he; exact h2 c hc⟩
   ·refine .inr ⟨j + 1, c, by simpa [mget, he] using h1, by simpa using h2, h3, fun i d hi hd => ?_⟩
    cases i with
    | zero => simp at hd; subst hd; exact he
    | succ i => exact h4 i d (by omega) (by simpa using hd)
theorem mput_new {l : List Cluster} {c : Cluster} (h : ∀ d ∈ l, d.name ≠ c.name) : mput (l.map fun c => (c.name, c)) c.name c = (l ++ [c]).map fun c => (c.name, c) := by
 induction l with
 | nil => rfl
 | cons e r ih =>
  have he : e.name ≠ c.name := h e (by simp)
  simp only [List.map_cons, List.cons_append, mput, if_neg he, ih fun d hd => h d (by simp [hd])]
theorem clusters_eq {h : Home} (hn : ∀ (k j : Nat) (c d : Cluster), h.clusters[k]? = some c → h.clusters[j]? = some d → j < k → d.name ≠ c.name) : clustersM h = h.clusters.map fun c => (c.name, c) := by
 have key : ∀ (m k : Nat), k + m = h.clusters.length → iterN (clustersM_B1 h) k m ((h.clusters.take k).map fun c => (c.name, c)) = h.clusters.map fun c => (c.name, c) := by
  intro m
  induction m with
  | zero => intro k hk; rw [iterN, List.take_of_length_le (by omega)]
  | succ m ih =>
   intro k hk
   have hl : k < h.clusters.length := by omega
   rw [iterN, ← ih (k + 1) (by omega)]
   congr 1
   unfold clustersM_B1
   rw [List.getElem?_eq_getElem hl]
   simp only
   rw [mput_new, List.take_succ_eq_append_getElem hl]
   intro d hd
   obtain ⟨i, hi, hid⟩ := mem_take_iff.1 hd
   exact hn k i _ d (List.getElem?_eq_getElem hl) hid hi
 unfold clustersM clustersM_L1
 exact key h.clusters.length 0 (by omega)
theorem check_l1 {c : Cluster} (h : checkM c = 0) : checkM_L1 c = none := by
 unfold checkM at h
 simp only [cond_eq_ite] at h
 split at h
 ·cases h
 ·split at h
  ·cases h
  ·refine (getD_zero h (scan_ne fun k r hk => ?_)).1
   unfold checkM_B1 at hk
   simp only [cond_eq_ite] at hk
   split at hk
   ·split at hk
    ·rename_i hq
     simp only [Option.some.injEq] at hk
     subst hk
     simpa using hq
    ·obtain ⟨j, _, _, hj, _⟩ := scanN_get hk
     unfold checkM_B2 at hj
     simp only [cond_eq_ite] at hj
     split at hj
     ·split at hj
      ·simp only [Option.some.injEq] at hj
       subst hj; decide
      ·cases hj
     ·cases hj
   ·cases hk
theorem devCheck_all {h : Home} (h0 : devCheckM h = 0) : allM h.clusters = 0 := by
 unfold devCheckM at h0
 simp only [cond_eq_ite] at h0
 split at h0
 ·rename_i hq
  rw [h0] at hq
  exact absurd hq (by decide)
 ·rename_i hq
  simpa using hq
theorem devFind_check {h : Home} {n : Int} (hf : (devFindM h n).2 = true) : devCheckM h = 0 := by
 unfold devFindM at hf
 simp only [cond_eq_ite] at hf
 split at hf
 ·cases hf
 ·rename_i hq
  simpa using hq
theorem clusters_valid {h : Home} (h0 : devCheckM h = 0) {j : Nat} {c : Cluster} (hc : h.clusters[j]? = some c) : checkM c = 0 := (all_spec (devCheck_all h0)).2.1 j c hc
theorem find_fit {h : Home} {n : Int} {x : ByteArray} (hf : (devFindM h n).2 = true) (hg : (mget (clustersM h) x).isSome = true) : FitA ((mget (clustersM h) x).getD default) := by
 have h0 := devFind_check hf
 rw [clusters_eq (all_names (devCheck_all h0))] at hg ⊢
 rcases mget_map (l := h.clusters) (x := x) with ⟨h1, _⟩ | ⟨j, c, h1, h2, _⟩
 ·rw [h1] at hg; cases hg
 ·rw [h1]
  exact check_fit (check_l1 (clusters_valid h0 h2))
theorem fit_zero : FitA (⟨⟨#[]⟩, [], [], []⟩ : Cluster) := fun _ h => nomatch h
theorem loopS_inl {R A : Type} {b : Nat → A → Step R A} : ∀ {m k : Nat} {a : A} {r : R}, loopS b k m a = .inl r → ∃ j a1, b j a1 = .ret r
 | 0, k, a, r, h => by simp [loopS] at h
 | m + 1, k, a, r, h => by
  unfold loopS at h
  split at h
  ·rename_i r' hb
   cases h
   exact ⟨k, a, hb⟩
  ·cases h
  ·exact loopS_inl h
theorem loopS_inr {R A : Type} {b : Nat → A → Step R A} (hb : ∀ k a a', b k a ≠ .brk a') : ∀ {m k : Nat} {a a' : A}, loopS b k m a = .inr a' → ∀ j, k ≤ j → j < k + m → ∃ a1 a2, b j a1 = .nxt a2
 | 0, k, a, a', _, j, h1, h2 => by omega
 | m + 1, k, a, a', h, j, h1, h2 => by
  unfold loopS at h
  split at h
  ·cases h
  ·rename_i hk
   exact absurd hk (hb _ _ _)
  ·rename_i a2 hk
   rcases Nat.lt_or_ge k j with h3 | h3
   ·exact loopS_inr hb h j (by omega) (by omega)
   ·have : j = k := by omega
    subst this
    exact ⟨_, _, hk⟩
theorem find_fitD {h : Home} {n : Int} {x : ByteArray} (hf : (devFindM h n).2 = true) : FitA ((mget (clustersM h) x).getD (⟨⟨#[]⟩, [], [], []⟩ : Cluster)) := by
 cases hm : mget (clustersM h) x with
 | none => exact fit_zero
 | some c =>
  have := find_fit (x := x) hf (by rw [hm]; rfl)
  rw [hm] at this
  exact this
theorem devFind_mem {h : Home} {n : Int} (hf : (devFindM h n).2 = true) : (devFindM h n).1 ∈ h.devices ∧ (devFindM h n).1.id = n := by
 have h0 := devFind_check hf
 unfold devFindM at hf ⊢
 rw [h0] at hf ⊢
 simp only [bne_self_eq_false, cond_false] at hf ⊢
 cases hs : devFindM_L1 h n with
 | none => rw [hs] at hf; cases hf
 | some r =>
  obtain ⟨j, _, _, hj, _⟩ := scanN_get hs
  unfold devFindM_B1 at hj
  cases he : h.devices[j]? with
  | none => rw [he] at hj; cases hj
  | some d =>
   rw [he] at hj
   simp only [cond_eq_ite] at hj
   split at hj
   ·rename_i hq
    cases hj
    exact ⟨List.mem_of_getElem? he, by simpa using hq⟩
   ·cases hj
theorem devFind_none {h : Home} {n : Int} (hf : (devFindM h n).2 = false) : (devFindM h n).1.clusters = [] := by
 unfold devFindM at hf ⊢
 cases hc : (devCheckM h != 0) with
 | true => rfl
 | false =>
  rw [hc] at hf
  simp only [cond_false] at hf ⊢
  cases hs : devFindM_L1 h n with
  | none => rfl
  | some r =>
   rw [hs] at hf
   obtain ⟨j, _, _, hj, _⟩ := scanN_get hs
   unfold devFindM_B1 at hj
   cases he : h.devices[j]? with
   | none => rw [he] at hj; cases hj
   | some d =>
    rw [he] at hj
    simp only [cond_eq_ite] at hj
    split at hj
    ·cases hj; cases hf
    ·cases hj
theorem caps_len {d : Dev} {m : List (ByteArray × Cluster)} (h : capsM d m = 0) : d.clusters.length ≤ 4 := by
 unfold capsM at h
 simp only [cond_eq_ite] at h
 split at h
 ·cases h
 ·rename_i hq
  simp at hq
  omega
theorem dev_caps {h : Home} (h0 : devCheckM h = 0) {j : Nat} {d : Dev} (hd : h.devices[j]? = some d) : capsM d (clustersM h) = 0 := by
  unfold devCheckM at h0
  simp only [cond_eq_ite] at h0
  split at h0
  · rename_i hq; rw [h0] at hq; exact absurd hq (by decide)
  · split at h0
    · cases h0
    · rename_i h20
      simp only [decide_eq_true_eq, Int.not_lt, gt_iff_lt] at h20
      split at h0
      · rename_i r hr
        subst h0
        obtain ⟨j1, a, hj⟩ := loopS_inl hr
        unfold devCheckM_B1 at hj
        dsimp only at hj
        simp only [cond_eq_ite] at hj
        repeat' split at hj
        all_goals first
          | (cases hj; done)
          | (rename_i hq; simp only [Step.ret.injEq] at hj; rw [hj] at hq; exact absurd hq (by decide))
      · rename_i a' hr
        obtain ⟨a1, a2, hj⟩ := loopS_inr (b := devCheckM_B1 h) (fun k a a' hb => by
          unfold devCheckM_B1 at hb
          dsimp only at hb
          simp only [cond_eq_ite] at hb
          repeat' split at hb
          all_goals cases hb) hr j (Nat.zero_le _) (by have := getElem_lt hd; omega)
        unfold devCheckM_B1 at hj
        dsimp only at hj
        have hlt := getElem_lt hd
        have hw : (IntKind.i64.wrap ((j : Int) - 1)).toNat < h.devices.length := by
          rw [wrap64_of _ (by omega) (by omega)]; omega
        rw [hd] at hj
        simp only [cond_eq_ite, List.getElem?_eq_getElem hw] at hj
        repeat' split at hj
        all_goals first
          | (cases hj; done)
          | (have hq : ¬ (capsM d (clustersM h) != 0) = true := by assumption
             simpa using hq)
theorem wide_attrs {c : Cluster} (h : checkM c = 0) : c.attrs.length ≤ 12 := by
 unfold checkM at h
 simp only [cond_eq_ite] at h
 split at h
 ·cases h
 ·split at h
  ·cases h
  ·rename_i hq
   unfold wideM at hq
   cases hw : wideM_L1 c with
   | some b =>
    obtain ⟨j, _, _, hj, _⟩ := scanN_get hw
    unfold wideM_B1 at hj
    simp only [cond_eq_ite] at hj
    repeat' split at hj
    all_goals first | (cases hj; done) | (cases hj; rw [hw] at hq; exact absurd rfl hq)
   | none =>
    rw [hw] at hq
    simp at hq
    omega
theorem key_attrs {h : Home} {n : Int} {k : Nat} {e x : ByteArray} (he : (devFindM h n).1.clusters[k]? = some e) : ((mget (clustersM h) x).getD (⟨⟨#[]⟩, [], [], []⟩ : Cluster)).attrs.length ≤ 12 := by
 cases hf : (devFindM h n).2 with
 | false => rw [devFind_none hf] at he; cases he
 | true =>
  have h0 := devFind_check hf
  rw [clusters_eq (all_names (devCheck_all h0))]
  rcases mget_map (l := h.clusters) (x := x) with ⟨h1, _⟩ | ⟨j, c, h1, h2, _⟩
  ·rw [h1]; exact Nat.zero_le _
  ·rw [h1]; exact wide_attrs (clusters_valid h0 h2)
theorem key_clusters (h : Home) (n : Int) : (devFindM h n).1.clusters.length ≤ 4 := by
 cases hf : (devFindM h n).2 with
 | false => rw [devFind_none hf]; exact Nat.zero_le _
 | true =>
  obtain ⟨j, hj⟩ := List.getElem?_of_mem (devFind_mem hf).1
  exact caps_len (dev_caps (devFind_check hf) hj)
end Go.Proofs.Ytnnlaccdendkpaa
