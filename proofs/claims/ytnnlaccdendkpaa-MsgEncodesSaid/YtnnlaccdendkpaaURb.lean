/- Messages: what the bounds and the checks say; the program and the reference check the same. Conditions: none. -/
import Derived.Test.YtnnlaccdendkpaaUB9
namespace Go.Proofs.Ytnnlaccdendkpaa
open Go Go.Av Go.Hh Go.Proofs
theorem small_spec {m : MsgV} (h : (!(smallM m)) = false) : m.items.length ≤ 12 ∧ m.data.size ≤ 600 ∧ m.cluster.size ≤ 600 ∧ m.name.size ≤ 600 ∧ ∀ x ∈ m.items, x.key.cluster.size ≤ 600 ∧ x.key.attr.size ≤ 600 ∧ x.value.s.size ≤ 600 := by
 have h : smallM m = true := by simpa using h
 unfold smallM at h
 simp only [cond_eq_ite] at h
 split at h
 ·cases h
 ·rename_i hq
  simp only [Bool.or_eq_true, decide_eq_true_eq, not_or, Int.not_lt, gt_iff_lt] at hq
  obtain ⟨⟨q1, q2, q3⟩, q4⟩ := hq
  refine ⟨by omega, by omega, by omega, by omega, fun x hx => ?_⟩
  obtain ⟨j, hj⟩ := List.getElem?_of_mem hx
  have hlt : j < m.items.length := (List.getElem?_eq_some_iff.1 hj).1
  cases hs : smallM_L1 m with
  | some b =>
   rw [hs] at h
   obtain ⟨j1, _, _, hb, _⟩ := scanN_get hs
   unfold smallM_B1 at hb
   simp only [cond_eq_ite] at hb
   repeat' split at hb
   all_goals first
    | (cases hb; done)
    | (cases hb; cases h)
  | none =>
   have := scan_at hs hlt
   unfold smallM_B1 at this
   simp only [hj, cond_eq_ite] at this
   split at this
   ·cases this
   ·rename_i hq
    simp only [Bool.or_eq_true, decide_eq_true_eq, not_or, Int.not_lt, gt_iff_lt] at hq
    refine ⟨by omega, by omega, by omega⟩
theorem small_l {m : MsgV} (h : (!(smallM m)) = false) : m.items.length ≤ 1000 := by
 have := (small_spec h).1
 omega
theorem small_d {m : MsgV} (h : (!(smallM m)) = false) : m.data.size ≤ 1000000 := by
 have := (small_spec h).2.1
 omega
theorem small_c {m : MsgV} (h : (!(smallM m)) = false) : m.cluster.size ≤ 1000000 := by
 have := (small_spec h).2.2.1
 omega
theorem small_n {m : MsgV} (h : (!(smallM m)) = false) : m.name.size ≤ 1000000 := by
 have := (small_spec h).2.2.2.1
 omega
theorem small_i {m : MsgV} (h : (!(smallM m)) = false) : ∀ x ∈ m.items, x.key.cluster.size ≤ 1000000 ∧ x.key.attr.size ≤ 1000000 ∧ x.value.s.size ≤ 1000000 := fun x hx => by
 have := (small_spec h).2.2.2.2 x hx
 omega
theorem valid_size {x : ByteArray} (h : validM x = true) : x.size ≤ 24 := by
 unfold validM at h
 simp only [cond_eq_ite] at h
 split at h
 ·cases h
 ·rename_i hq
  simp at hq
  omega
theorem vcheck_size {v : Val} (h : vCheckM v = 0) : v.s.size ≤ 60 := by
 unfold vCheckM at h
 simp only [cond_eq_ite] at h
 repeat' split at h
 all_goals first
  | (cases h; done)
  | (rename_i hq _; simp at hq; omega)
  | (rename_i hq; simp at hq; omega)
structure MsgOk (m : MsgV) : Prop where
 kind : 1 ≤ m.kind ∧ m.kind ≤ 7
 dev : 1 ≤ m.dev ∧ m.dev ≤ 250
 epoch : 0 ≤ m.epoch ∧ m.epoch ≤ 1099511627776
 version : 0 ≤ m.version ∧ m.version ≤ 1099511627776
 len : m.items.length ≤ 7
 data : m.data.size ≤ 512
 spare : spareM m = false
 item : ∀ (k : Nat) (x : ItemV), m.items[k]? = some x → itemM x m.dev = 0
 order : ∀ (k : Nat) (x y : ItemV), m.items[k]? = some x → m.items[k + 1]? = some y → lessM x.key y.key = true
 names : hasNamesM m.kind = true → validM m.cluster = true ∧ validM m.name = true
theorem item_b1 {m : MsgV} (hn : m.items.length ≤ 7) {k : Nat} {x : ItemV} (hx : m.items[k]? = some x) : mCheckM_B1 m k = none → itemM x m.dev = 0 ∧ ∀ (j : Nat) (y : ItemV), k = j + 1 → m.items[j]? = some y → lessM y.key x.key = true := by
 intro h
 unfold mCheckM_B1 at h
 rw [hx] at h
 simp only [cond_eq_ite] at h
 split at h
 ·cases h
 ·rename_i h1
  refine ⟨by simpa using h1, fun j y hj hy => ?_⟩
  subst hj
  rw [if_pos (decide_eq_true (by omega))] at h
  have hw : (IntKind.i64.wrap (((j + 1 : Nat) : Int) - 1)).toNat = j := by
   have := getElem_lt hx
   rw [wrap64_of _ (by omega) (by omega)] <;> omega
  rw [hw, hy] at h
  simp only at h
  split at h
  ·cases h
  ·rename_i h2
   simpa using h2
theorem msg_ok {m : MsgV} (h : mCheckM m = 0) : MsgOk m := by
 unfold mCheckM at h
 simp only [cond_eq_ite] at h
 split at h
 ·cases h
 ·rename_i h1
  split at h
  ·cases h
  ·rename_i h2
   split at h
   ·cases h
   ·rename_i h3
    split at h
    ·cases h
    ·rename_i h4
     simp only [Bool.or_eq_true, decide_eq_true_eq, not_or, Int.not_lt, gt_iff_lt, countedM, Bool.not_eq_true', Bool.and_eq_false_iff, decide_eq_false_iff_not, ge_iff_le, Int.not_le] at h1 h2 h3
     have hl : m.items.length ≤ 7 := by omega
     have hz := getD_zero h (fun r hr => by
      obtain ⟨j, _, _, hb, _⟩ := scanN_get hr
      unfold mCheckM_B1 at hb
      simp only [cond_eq_ite] at hb
      repeat' split at hb
      all_goals first
       | (cases hb; done)
       | (cases hb; decide)
       | (rename_i hq; cases hb; simpa using hq))
     refine ⟨by omega, by omega, by omega, by omega, hl, by omega, by simpa using h4, fun k x hx => (item_b1 hl hx (scan_at hz.1 (getElem_lt hx))).1, fun k x y hx hy => (item_b1 hl hy (scan_at hz.1 (getElem_lt hy))).2 k x rfl hx, fun hn => ?_⟩
     have h5 := hz.2
     rw [hn] at h5
     split at h5
     ·cases h5
     ·rename_i hq
      simpa using hq
theorem item_spec {x : ItemV} {n : Int} (h : itemM x n = 0) : x.key.dev = n ∧ validM x.key.cluster = true ∧ validM x.key.attr = true ∧ vCheckM x.value = 0 ∧ 0 ≤ x.version ∧ x.version ≤ 1099511627776 := by
 unfold itemM at h
 simp only [cond_eq_ite] at h
 split at h
 ·cases h
 ·rename_i h1
  split at h
  ·cases h
  ·rename_i h2
   split at h
   ·rename_i h3
    rw [h] at h3
    exact absurd h3 (by decide)
   ·rename_i h3
    split at h
    ·cases h
    ·rename_i h4
     simp [countedM] at h1 h2 h3 h4
     exact ⟨h1, h2.1, h2.2, h3, h4.1, h4.2⟩
theorem spare_names {m : MsgV} (h : spareM m = false) (hn : hasNamesM m.kind = false) : m.cluster = ⟨#[]⟩ ∧ m.name = ⟨#[]⟩ := by
 unfold spareM at h
 rw [hn] at h
 cases he : hasEpochM m.kind <;> rw [he] at h <;> simp [beqS_eq] at h
 all_goals exact ⟨by simp_all, by simp_all⟩
theorem ok_sizes {m : MsgV} (h : mCheckM m = 0) : m.cluster.size ≤ 24 ∧ m.name.size ≤ 24 ∧ ∀ x ∈ m.items, x.key.cluster.size ≤ 24 ∧ x.key.attr.size ≤ 24 ∧ x.value.s.size ≤ 60 := by
 have hm := msg_ok h
 refine ⟨?_, ?_, fun x hx => ?_⟩
 ·cases hn : hasNamesM m.kind with
  | true => exact valid_size (hm.names hn).1
  | false => rw [(spare_names hm.spare hn).1]; exact Nat.zero_le _
 ·cases hn : hasNamesM m.kind with
  | true => exact valid_size (hm.names hn).2
  | false => rw [(spare_names hm.spare hn).2]; exact Nat.zero_le _
 ·obtain ⟨j, hj⟩ := List.getElem?_of_mem hx
  obtain ⟨_, h1, h2, h3, _⟩ := item_spec (hm.item j x hj)
  exact ⟨valid_size h1, valid_size h2, vcheck_size h3⟩
end Go.Proofs.Ytnnlaccdendkpaa
