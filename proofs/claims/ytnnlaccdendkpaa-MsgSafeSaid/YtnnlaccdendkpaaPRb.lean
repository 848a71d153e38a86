/- Messages: what the bounds and the checks say; the program and the reference check the same. Conditions: none. -/
import Derived.Test.YtnnlaccdendkpaaPB9
namespace Go.Proofs.Ytnnlaccdendkpaa
open Go Go.Av Go.Hh Go.Proofs
theorem small_spec {m : MsgV} (h : (!(smallM m)) = false) : m.items.length ≤ 12 ∧ m.data.size ≤ 600 ∧ m.cluster.size ≤ 600 ∧ m.name.size ≤ 600 ∧ ∀ x ∈ m.items, x.key.cluster.size ≤ 600 ∧ x.key.attr.size ≤ 600 ∧ x.value.s.size ≤ 600 := by
 have h : smallM m = true := by simpa using h
 unfold smallM at h
 simp only [cond_eq_ite] at h
 split at h
 ·cases h
 ·rename_i hq
  simp only [Bool.or_eq_true, decide_eq_true_eq, not_or, Int.not_lt, gt_iff_lt] at hq
  obtain ⟨⟨q1, q2, q3⟩, q4⟩ := hq
  refine ⟨by omega, by omega, by omega, by omega, fun x hx => ?_⟩
  obtain ⟨j, hj⟩ := List.getElem?_of_mem hx
  have hlt : j < m.items.length := (List.getElem?_eq_some_iff.1 hj).1
  cases hs : smallM_L1 m with
  | some b =>
   rw [hs] at h
   obtain ⟨j1, _, _, hb, _⟩ := scanN_get hs
   unfold smallM_B1 at hb
   simp only [cond_eq_ite] at hb
   repeat' split at hb
   all_goals first
    | (cases hb; done)
    | (cases hb; cases h)
  | none =>
   have := scan_at hs hlt
   unfold smallM_B1 at this
   simp only [hj, cond_eq_ite] at this
   split at this
   ·cases this
   ·rename_i hq
    simp only [Bool.or_eq_true, decide_eq_true_eq, not_or, Int.not_lt, gt_iff_lt] at hq
    refine ⟨by omega, by omega, by omega⟩
theorem small_l {m : MsgV} (h : (!(smallM m)) = false) : m.items.length ≤ 1000 := by
 have := (small_spec h).1
 omega
theorem small_d {m : MsgV} (h : (!(smallM m)) = false) : m.data.size ≤ 1000000 := by
 have := (small_spec h).2.1
 omega
theorem small_c {m : MsgV} (h : (!(smallM m)) = false) : m.cluster.size ≤ 1000000 := by
 have := (small_spec h).2.2.1
 omega
theorem small_n {m : MsgV} (h : (!(smallM m)) = false) : m.name.size ≤ 1000000 := by
 have := (small_spec h).2.2.2.1
 omega
theorem small_i {m : MsgV} (h : (!(smallM m)) = false) : ∀ x ∈ m.items, x.key.cluster.size ≤ 1000000 ∧ x.key.attr.size ≤ 1000000 ∧ x.value.s.size ≤ 1000000 := fun x hx => by
 have := (small_spec h).2.2.2.2 x hx
 omega
theorem valid_size {x : ByteArray} (h : validM x = true) : x.size ≤ 24 := by
 unfold validM at h
 simp only [cond_eq_ite] at h
 split at h
 ·cases h
 ·rename_i hq
  simp at hq
  omega
theorem vcheck_size {v : Val} (h : vCheckM v = 0) : v.s.size ≤ 60 := by
 unfold vCheckM at h
 simp only [cond_eq_ite] at h
 repeat' split at h
 all_goals first
  | (cases h; done)
  | (rename_i hq _; simp at hq; omega)
  | (rename_i hq; simp at hq; omega)
structure MsgOk (m : MsgV) : Prop where
 kind : 1 ≤ m.kind ∧ m.kind ≤ 7
 dev : 1 ≤ m.dev ∧ m.dev ≤ 250
 epoch : 0 ≤ m.epoch ∧ m.epoch ≤ 1099511627776
 version : 0 ≤ m.version ∧ m.version ≤ 1099511627776
 len : m.items.length ≤ 7
 data : m.data.size ≤ 512
 spare : spareM m = false
 item : ∀ (k : Nat) (x : ItemV), m.items[k]? = some x → itemM x m.dev = 0
 order : ∀ (k : Nat) (x y : ItemV), m.items[k]? = some x → m.items[k + 1]? = some y → lessM x.key y.key = true
 names : hasNamesM m.kind = true → validM m.cluster = true ∧ validM m.name = true
theorem item_b1 {m : MsgV} (hn : m.items.length ≤ 7) {k : Nat} {x : ItemV} (hx : m.items[k]? = some x) : mCheckM_B1 m k = none → itemM x m.dev = 0 ∧ ∀ (j : Nat) (y : ItemV), k = j + 1 → m.items[j]? = some y → lessM y.key x.key = true := by
 intro h
 unfold mCheckM_B1 at h
 rw [hx] at h
 simp only [cond_eq_ite] at h
 split at h
 ·cases h
 ·rename_i h1
  refine ⟨by simpa using h1, fun j y hj hy => ?_⟩
  subst hj
  rw [if_pos (decide_eq_true (by omega))] at h
  have hw : (IntKind.i64.wrap (((j + 1 : Nat) : Int) - 1)).toNat = j := by
   have := getElem_lt hx
   rw [wrap64_of _ (by omega) (by omega)] <;> omega
  rw [hw, hy] at h
  simp only at h
  split at h
  ·cases h
  ·rename_i h2
   simpa using h2
theorem msg_ok {m : MsgV} (h : mCheckM m = 0) : MsgOk m := by
 unfold mCheckM at h
 simp only [cond_eq_ite] at h
 split at h
 ·cases h
 ·rename_i h1
  split at h
  ·cases h
  ·rename_i h2
   split at h
   ·cases h
   ·rename_i h3
    split at h
    ·cases h
    ·rename_i h4
     simp only [Bool.or_eq_true, decide_eq_true_eq, not_or, Int.not_lt, gt_iff_lt, countedM, Bool.not_eq_true', Bool.and_eq_false_iff, decide_eq_false_iff_not, ge_iff_le, Int.not_le] at h1 h2 h3
     have hl : m.items.length ≤ 7 := by omega
     have hz := getD_zero h (fun r hr => by
      obtain ⟨j, _, _, hb, _⟩ := scanN_get hr
      unfold mCheckM_B1 at hb
      simp only [cond_eq_ite] at hb
      repeat' split at hb
      all_goals first
       | (cases hb; done)
       | (cases hb; decide)
       | (rename_i hq; cases hb; simpa using hq))
     refine ⟨by omega, by omega, by omega, by omega, hl, by omega, by simpa using h4, fun k x hx => (item_b1 hl hx (scan_at hz.1 (getElem_lt hx))).1, fun k x y hx hy => (item_b1 hl hy (scan_at hz.1 (getElem_lt hy))).2 k x rfl hx, fun hn => ?_⟩
     have h5 := hz.2
     rw [hn] at h5
     split at h5
     ·cases h5
     ·rename_i hq
      simpa using hq
theorem item_spec {x : ItemV} {n : Int} (h : itemM x n = 0) : x.key.dev = n ∧ validM x.key.cluster = true ∧ validM x.key.attr = true ∧ vCheckM x.value = 0 ∧ 0 ≤ x.version ∧ x.version ≤ 1099511627776 := by
 unfold itemM at h
 simp only [cond_eq_ite] at h
 split at h
 ·cases h
 ·rename_i h1
  split at h
  ·cases h
  ·rename_i h2
   split at h
   ·rename_i h3
    rw [h] at h3
    exact absurd h3 (by decide)
   ·rename_i h3
    split at h
    ·cases h
    ·rename_i h4
     simp [countedM] at h1 h2 h3 h4
     exact ⟨h1, h2.1, h2.2, h3, h4.1, h4.2⟩
theorem spare_names {m : MsgV} (h : spareM m = false) (hn : hasNamesM m.kind = false) : m.cluster = ⟨#[]⟩ ∧ m.name = ⟨#[]⟩ := by
 unfold spareM at h
 rw [hn] at h
 cases he : hasEpochM m.kind <;> rw [he] at h <;> simp [beqS_eq] at h
 all_goals exact ⟨by simp_all, by simp_all⟩
theorem ok_sizes {m : MsgV} (h : mCheckM m = 0) : m.cluster.size ≤ 24 ∧ m.name.size ≤ 24 ∧ ∀ x ∈ m.items, x.key.cluster.size ≤ 24 ∧ x.key.attr.size ≤ 24 ∧ x.value.s.size ≤ 60 := by
 have hm := msg_ok h
 refine ⟨?_, ?_, fun x hx => ?_⟩
 ·cases hn : hasNamesM m.kind with
  | true => exact valid_size (hm.names hn).1
  | false => rw [(spare_names hm.spare hn).1]; exact Nat.zero_le _
 ·cases hn : hasNamesM m.kind with
  | true => exact valid_size (hm.names hn).2
  | false => rw [(spare_names hm.spare hn).2]; exact Nat.zero_le _
 ·obtain ⟨j, hj⟩ := List.getElem?_of_mem hx
  obtain ⟨_, h1, h2, h3, _⟩ := item_spec (hm.item j x hj)
  exact ⟨valid_size h1, valid_size h2, vcheck_size h3⟩
abbrev mz : MsgV := ⟨0, 0, 0, 0, [], ⟨#[]⟩, ⟨#[]⟩, ⟨#[]⟩⟩
abbrev mk0 (k : Int) : MsgV := ⟨k, 0, 0, 0, [], ⟨#[]⟩, ⟨#[]⟩, ⟨#[]⟩⟩
def fin (q : MsgV) (e c : Int) : MsgV × Int := if e ≠ 0 then (mz, e) else if c ≠ 0 then (mz, c) else (q, 0)
theorem fin_eq (q : MsgV) (e c : Int) : (bif ((bif (e == 0) then c else e) != 0) then (mz, (bif (e == 0) then c else e)) else (q, 0)) = fin q e c := by
 unfold fin
 by_cases he : e = 0
 ·subst he
  by_cases hc : c = 0
  ·subst hc; rfl
  ·simp [cond_eq_ite, hc]
 ·simp [cond_eq_ite, he]
theorem decode_eq (s : ByteArray) : decodeM s = if rdErrM (rdIntM (newRd s)).2 ≠ 0 then (mz, rdErrM (rdIntM (newRd s)).2) else if (rdIntM (newRd s)).1 < 1 ∨ 7 < (rdIntM (newRd s)).1 then (mz, 7) else
    fin (bodyDM (rdIntM (newRd s)).2 (mk0 (rdIntM (newRd s)).1)).1 (rdEndM (bodyDM (rdIntM (newRd s)).2 (mk0 (rdIntM (newRd s)).1)).2) (mCheckM (bodyDM (rdIntM (newRd s)).2 (mk0 (rdIntM (newRd s)).1)).1) := by
  rw [← fin_eq]
  unfold decodeM
  generalize rdIntM (newRd s) = p
  simp only [cond_eq_ite, bne_iff_ne, ne_eq, Bool.or_eq_true, decide_eq_true_eq, gt_iff_lt]
theorem fin_zero {q : MsgV} {e c : Int} (h : (fin q e c).2 = 0) : e = 0 ∧ c = 0 ∧ (fin q e c).1 = q := by
 unfold fin at h ⊢
 split at h
 ·rename_i h1; exact absurd h h1
 ·rename_i h1
  rw [if_neg h1]
  split at h
  ·rename_i h2; exact absurd h h2
  ·rename_i h2
   rw [if_neg h2]
   exact ⟨by omega, by omega, rfl⟩
theorem dec_spec {s : ByteArray} (h : (decodeM s).2 = 0) : rdErrM (rdIntM (newRd s)).2 = 0 ∧ 1 ≤ (rdIntM (newRd s)).1 ∧ (rdIntM (newRd s)).1 ≤ 7 ∧ (decodeM s).1 = (bodyDM (rdIntM (newRd s)).2 (mk0 (rdIntM (newRd s)).1)).1 ∧
    rdEndM (bodyDM (rdIntM (newRd s)).2 (mk0 (rdIntM (newRd s)).1)).2 = 0 ∧ mCheckM (decodeM s).1 = 0 := by
  rw [decode_eq] at h ⊢
  split at h
  · rename_i h1; exact absurd h h1
  · rename_i h1
    rw [if_neg h1]
    split at h
    · cases h
    · rename_i h2
      rw [if_neg h2]
      obtain ⟨h3, h4, h5⟩ := fin_zero h
      exact ⟨by omega, by omega, by omega, h5, h3, by rw [h5]; exact h4⟩
theorem dec_check {s : ByteArray} (h : ((decodeM s).2 != 0) = false) : mCheckM (decodeM s).1 = 0 := (dec_spec (bz h)).2.2.2.2.2
theorem dec_d {s : ByteArray} (h : ((decodeM s).2 != 0) = false) : (decodeM s).1.data.size ≤ 1000000 := by
 have := (msg_ok (dec_check h)).data
 omega
theorem dec_l {s : ByteArray} (h : ((decodeM s).2 != 0) = false) : (decodeM s).1.items.length ≤ 1000 := by
 have := (msg_ok (dec_check h)).len
 omega
theorem dec_c {s : ByteArray} (h : ((decodeM s).2 != 0) = false) : (decodeM s).1.cluster.size ≤ 1000000 := by
 have := (ok_sizes (dec_check h)).1
 omega
theorem dec_n {s : ByteArray} (h : ((decodeM s).2 != 0) = false) : (decodeM s).1.name.size ≤ 1000000 := by
 have := (ok_sizes (dec_check h)).2.1
 omega
theorem dec_i {s : ByteArray} (h : ((decodeM s).2 != 0) = false) : ∀ x ∈ (decodeM s).1.items, x.key.cluster.size ≤ 1000000 ∧ x.key.attr.size ≤ 1000000 ∧ x.value.s.size ≤ 1000000 := fun x hx => by
 have := (ok_sizes (dec_check h)).2.2 x hx
 omega
theorem app_size {s : ByteArray} {l : List Int} (h : decide ((s.size : Int) > 1200) = false) (hl : l.length ≤ 1) : (s ++ bytesOf l).size ≤ 1000000 := by
 have := of_decide_eq_false h
 rw [ByteArray.size_append, bytesOf_size]
 omega
theorem cut_size {s : ByteArray} {n : Nat} (h : decide ((s.size : Int) > 1200) = false) : (s.extract 0 n).size ≤ 1000000 := by
 have := of_decide_eq_false h
 rw [ByteArray.size_extract]
 omega
end Go.Proofs.Ytnnlaccdendkpaa
