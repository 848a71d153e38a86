/- Messages: the program and the reference decode the same. Conditions: none. -/
import Derived.Test.YtnnlaccdendkpaaVRk
namespace Go.Proofs.Ytnnlaccdendkpaa
open Go Go.Av Go.Hh Go.Proofs
theorem rel_size {r : Rd} {q : RRd} (h : Rel r q) : (r.rest.size : Int) = (q.s.size : Int) - q.at_ := by
 obtain ⟨⟨h1, h2, h3⟩, rfl⟩ := h
 show (((q.s.extract q.at_.toNat q.s.size).size : Nat) : Int) = _
 rw [ByteArray.size_extract]
 omega
theorem sim_count (n : Int) : Sim (fun r => rdCountM r n) (fun q => rrCountM q n) := by
 intro r q h
 obtain ⟨h1, h2⟩ := sim_int r q h
 show (rdCountM r n).1 = (rrCountM q n).1 ∧ Rel (rdCountM r n).2 (rrCountM q n).2
 unfold rdCountM rrCountM
 rw [rel_err h2, h1]
 have hm : (if 0 > n then (0 : Int) else n) = bif decide (n < 0) then 0 else n := by
  rw [cond_eq_ite]
  by_cases hn : n < 0
  ·rw [if_pos hn, if_pos (decide_eq_true hn)]
  ·rw [if_neg hn, if_neg (by simpa using hn)]
 rw [hm]
 have hk : ∀ e : Int, Rel ⟨(rdIntM r).2.rest, e, (rdIntM r).2.made⟩ ⟨(rrIntM q).2.s, (rrIntM q).2.at_, e, (rrIntM q).2.made⟩ := fun e => by
  obtain ⟨ho, hr⟩ := h2
  refine ⟨ho, ?_⟩
  rw [hr]
 cases (rrErrM (rrIntM q).2 != 0) with
 | true => exact ⟨rfl, h2⟩
 | false =>
  simp only [cond_false]
  cases decide ((rrIntM q).1 < 0) with
  | true => exact ⟨rfl, hk 4⟩
  | false =>
   simp only [cond_false]
   cases decide ((rrIntM q).1 > bif decide (n < 0) then 0 else n) with
   | true => exact ⟨rfl, hk 3⟩
   | false => exact ⟨rfl, h2⟩
theorem ext_sub (s : ByteArray) (n j : Nat) (h : n + j ≤ s.size) : (s.extract n s.size).extract 0 j = s.extract n (n + j) := bytes_ext (by
 rw [ByteArray.data_extract, Array.toList_extract, ext_list, ByteArray.data_extract, Array.toList_extract]
 have hs : s.size = s.data.toList.length := rfl
 simp only [List.extract, List.drop_zero, Nat.sub_zero]
 rw [show n + j - n = j by omega])
theorem sim_text (n : Int) : Sim (fun r => rdTextM r n) (fun q => rrTextM q n) := by
 intro r q h
 obtain ⟨h1, h2⟩ := sim_count n r q h
 have hnn := rrCountM_nn q n
 show (rdTextM r n).1 = (rrTextM q n).1 ∧ Rel (rdTextM r n).2 (rrTextM q n).2
 have hkeep := rrTextM_keep (n := n) h.1
 unfold rrTextM at hkeep ⊢
 unfold rdTextM
 dsimp only at h1 h2
 rw [rel_err h2, h1]
 have hsz := rel_size h2
 obtain ⟨ho, hr⟩ := h2
 obtain ⟨o1, o2, o3⟩ := ho
 generalize rrCountM q n = c at *
 rw [hr] at hsz ⊢
 generalize hd : rdCountM r n = d at *
 have w1 : IntKind.i64.wrap ((c.2.s.size : Int) - c.2.at_) = (c.2.s.size : Int) - c.2.at_ := wrap64_of _ (by omega) (by omega)
 rw [w1] at hkeep ⊢
 dsimp only at hsz ⊢
 rw [hsz]
 cases hE : (rrErrM c.2 != 0) with
 | true =>
  exact ⟨rfl, ⟨o1, o2, o3⟩, rfl⟩
 | false =>
  rw [hE] at hkeep
  simp only [cond_false] at hkeep ⊢
  by_cases hg : c.1 > (c.2.s.size : Int) - c.2.at_
  ·rw [decide_eq_true hg]
   exact ⟨rfl, ⟨o1, o2, o3⟩, rfl⟩
  ·rw [decide_eq_false hg] at hkeep ⊢
   simp only [cond_false] at hkeep ⊢
   refine ⟨?_, hkeep, ?_⟩
   ·rw [ext_sub _ _ _ (by omega)]
    congr 1
    omega
   ·have w2 : IntKind.i64.wrap (c.2.at_ + c.1) = c.2.at_ + c.1 := wrap64_of _ (by omega) (by omega)
    rw [w2, ext_ext]
    have : c.2.at_.toNat + c.1.toNat = (c.2.at_ + c.1).toNat := by omega
    rw [this]
theorem sim_fail {r : Rd} {q : RRd} (e : Int) (h : Rel r q) : Rel (rdFailM r e) (rrFailM q e) := by
 unfold rdFailM rrFailM
 rw [rel_err h]
 cases (rrErrM q == 0) with
 | true => exact ⟨h.1, by rw [h.2]; rfl⟩
 | false => exact h
theorem sim_take : Sim takeM rtakeM := by
 intro r q h
 obtain ⟨h1, h2⟩ := sim_int r q h
 obtain ⟨a1, a2⟩ := sim_text 60 _ _ h2
 obtain ⟨b1, b2⟩ := sim_int _ _ h2
 dsimp only at a1 a2
 have hv : (tk r).1 = rtakeM_v3 q ∧ Rel (tk r).2 (rtakeM_v4 q) := by
  have hk1 : (rtakeM_v1 q).kind = (rrIntM q).1 := by
   unfold rtakeM_v1
   cases ((rrIntM q).1 == 4) <;> rfl
  unfold tk rtakeM_v3 rtakeM_v4
  rw [hk1, h1]
  by_cases h4 : (rrIntM q).1 = 4
  ·rw [if_neg (by omega), if_pos h4, show (decide ((rrIntM q).1 ≥ 1) && decide ((rrIntM q).1 ≤ 3)) = false by rw [h4]; rfl]
   simp only [cond_false]
   unfold rtakeM_v1 rtakeM_v2
   rw [show ((rrIntM q).1 == 4) = true by simpa using h4]
   simp only [cond_true]
   exact ⟨by rw [a1], a2⟩
  ·have e1 : rtakeM_v1 q = ⟨(rrIntM q).1, 0, ⟨#[]⟩⟩ := by
    unfold rtakeM_v1
    rw [show ((rrIntM q).1 == 4) = false by simpa using h4]
    rfl
   have e2 : rtakeM_v2 q = (rrIntM q).2 := by
    unfold rtakeM_v2
    rw [show ((rrIntM q).1 == 4) = false by simpa using h4]
    rfl
   rw [e1, e2]
   by_cases h3 : (rrIntM q).1 = 1 ∨ (rrIntM q).1 = 2 ∨ (rrIntM q).1 = 3
   ·rw [if_pos h3, show (decide ((rrIntM q).1 ≥ 1) && decide ((rrIntM q).1 ≤ 3)) = true by simp; omega]
    simp only [cond_true]
    exact ⟨by rw [b1], b2⟩
   ·rw [if_neg h3, if_neg h4, show (decide ((rrIntM q).1 ≥ 1) && decide ((rrIntM q).1 ≤ 3)) = false by simp; omega]
    exact ⟨rfl, h2⟩
 obtain ⟨v1, v2⟩ := hv
 have h5 : Rel (takeM_v3 r) (rtakeM_v5 q) := by
  unfold takeM_v3 rtakeM_v5
  rw [(tk_v r).1, (tk_v r).2, v1, vcheck_eq]
  by_cases hE : rrErrM (rtakeM_v4 q) = 0
  ·rw [show (rrErrM (rtakeM_v4 q) == 0) = true by simpa using hE]
   simp only [Bool.true_and]
   cases (rvCheckM (rtakeM_v3 q) != 0) with
   | true => exact sim_fail 4 v2
   | false => exact v2
  ·rw [show (rrErrM (rtakeM_v4 q) == 0) = false by simpa using hE]
   simp only [Bool.false_and, cond_false]
   cases (rvCheckM (rtakeM_v3 q) != 0) with
   | true =>
    simp only [cond_true]
    unfold rdFailM
    rw [rel_err v2, show (rrErrM (rtakeM_v4 q) == 0) = false by simpa using hE]
    exact v2
   | false => exact v2
 unfold takeM rtakeM
 rw [rel_err h5, (tk_v r).1, v1]
 cases (rrErrM (rtakeM_v5 q) != 0) with
 | true => exact ⟨rfl, h5⟩
 | false => exact ⟨rfl, h5⟩
section
variable {α β : Type}
theorem Sim.bnd {R1 : Rd → α × Rd} {S1 : RRd → α × RRd} {R2 : α → Rd → β × Rd} {S2 : α → RRd → β × RRd} (h1 : Sim R1 S1) (h2 : ∀ a, Sim (R2 a) (S2 a)) : Sim (bnd R1 R2) (bnd S1 S2) := fun r q h => by
 obtain ⟨a1, a2⟩ := h1 r q h
 obtain ⟨b1, b2⟩ := h2 (S1 q).1 _ _ a2
 unfold Go.Proofs.Ytnnlaccdendkpaa.bnd
 rw [a1]
 exact ⟨by rw [b1], b2⟩
theorem Sim.opt {R : Rd → α × Rd} {S : RRd → α × RRd} (c : Bool) (d : α) (h : Sim R S) : Sim (opt c d R) (opt c d S) := fun r q hr => by
 cases c with
 | true => exact h r q hr
 | false => exact ⟨rfl, hr⟩
theorem Sim.mapR {R : Rd → α × Rd} {S : RRd → α × RRd} (f : α → β) (h : Sim R S) : Sim (mapR f R) (mapR f S) := fun r q hr => by
 obtain ⟨a1, a2⟩ := h r q hr
 exact ⟨by unfold Go.Proofs.Ytnnlaccdendkpaa.mapR; rw [a1], a2⟩
theorem Sim.many {R : Rd → α × Rd} {S : RRd → α × RRd} (h : Sim R S) : ∀ n, Sim (rmany R n) (rmany S n)
 | 0, r, q, hr => ⟨rfl, hr⟩
 | n + 1, r, q, hr => by
  obtain ⟨a1, a2⟩ := h r q hr
  obtain ⟨b1, b2⟩ := Sim.many h n _ _ a2
  unfold rmany
  rw [a1]
  exact ⟨by rw [b1], b2⟩
end
abbrev rbodyR (k : Int) : RRd → MsgV × RRd := rbody rrIntM (fun r => rrCountM r 7) (fun r => rrTextM r 24) (fun r => rrTextM r 512) rtakeM k
theorem sim_body (k : Int) : Sim (dbody k) (rbodyR k) :=
 Sim.mapR _ (Sim.bnd sim_int fun d => Sim.bnd (Sim.opt _ _ sim_int) fun _ => Sim.bnd sim_int fun _ => Sim.bnd (Sim.opt _ _ (Sim.mapR _ (Sim.bnd (sim_count 7) fun n => Sim.many (Sim.mapR _ (Sim.bnd (sim_text 24) fun _ => Sim.bnd (sim_text 24) fun _ => Sim.bnd sim_take fun _ => sim_int)) n.toNat))) fun _ =>
  Sim.bnd (Sim.opt _ _ (sim_text 24)) fun _ => Sim.bnd (Sim.opt _ _ (sim_text 24)) fun _ => Sim.opt _ _ (sim_text 512))
theorem sim_end {r : Rd} {q : RRd} (h : Rel r q) : rdEndM r = rrEndM q := by
 have hs := rel_size h
 unfold rdEndM rdLeftM rrEndM
 rw [rel_err h]
 cases hE : (rrErrM q != 0) with
 | true => rfl
 | false =>
  have h0 : rrErrM q = 0 := bz hE
  simp only [cond_false]
  rw [hs, h0]
  by_cases hl : q.at_ < (q.s.size : Int)
  ·rw [decide_eq_true hl, decide_eq_true (by omega)]
  ·rw [decide_eq_false hl, decide_eq_false (by omega)]
theorem rloopD (s : ByteArray) (n : Nat) (q : RRd) : iterN (rdecodeM_B1 s) 0 n ([], q) = rmany (ritem rrIntM (fun r => rrTextM r 24) rtakeM (rdecodeM_v1 s).dev) n q := by
 rw [iter_many (R := ritem rrIntM (fun r => rrTextM r 24) rtakeM (rdecodeM_v1 s).dev)]
 ·simp
 ·intro j l p
  rfl
theorem rfin_eq (q : MsgV) (e c : Int) : (bif ((bif (e == 0) then c else e) != 0) then ((⟨0, 0, 0, 0, [], ⟨#[]⟩, ⟨#[]⟩, ⟨#[]⟩⟩ : MsgV), (bif (e == 0) then c else e)) else (q, 0)) = fin q e c := fin_eq q e c
end Go.Proofs.Ytnnlaccdendkpaa
