/- Messages: the laws, in plain Lean. Conditions: none. -/
import Derived.Test.YtnnlaccdendkpaaVRl
import Derived.Test.YtnnlaccdendkpaaVRh
namespace Go.Proofs.Ytnnlaccdendkpaa
open Go Go.Av Go.Hh Go.Proofs
theorem rdecode_eq (s : ByteArray) : rdecodeM s = if rrErrM (rrIntM (newRRd s)).2 = 0 ∧ ((rrIntM (newRRd s)).1 < 1 ∨ 7 < (rrIntM (newRRd s)).1) then (mz, 7) else
    fin (rbodyR (rrIntM (newRRd s)).1 (rrIntM (newRRd s)).2).1 (rrEndM (rbodyR (rrIntM (newRRd s)).1 (rrIntM (newRRd s)).2).2) (rmCheckM (rbodyR (rrIntM (newRRd s)).1 (rrIntM (newRRd s)).2).1) := by
  have hk : (rdecodeM_v1 s).kind = (rrIntM (newRRd s)).1 := by
    unfold rdecodeM_v1
    cases rhasEpochM (rrIntM (newRRd s)).1 <;> rfl
  have hd : (rdecodeM_v1 s).dev = (rrIntM (rrIntM (newRRd s)).2).1 := by
    unfold rdecodeM_v1
    cases rhasEpochM (rrIntM (newRRd s)).1 <;> rfl
  have hk6 : (rdecodeM_v6 s).kind = (rrIntM (newRRd s)).1 := by
    unfold rdecodeM_v6
    rw [hk]
    cases ((rrIntM (newRRd s)).1 == 5) <;> rfl
  have hL : ∀ q : RRd, rdecodeM_L1 s ([], q) = rmany (ritem rrIntM (fun r => rrTextM r 24) rtakeM (rrIntM (rrIntM (newRRd s)).2).1) (((rrCountM ((rrIntM (rdecodeM_v2 s)).2) 7).1).toNat) q := fun q => by
    unfold rdecodeM_L1
    rw [rloopD, hd]
  have hE : ∀ n : Int, rhasEpochM n = hasEpochM n := fun _ => rfl
  have hI : ∀ n : Int, rhasItemsM n = hasItemsM n := fun _ => rfl
  have hN : ∀ n : Int, (n == 5) = hasNamesM n := fun _ => rfl
  have hD : ∀ n : Int, rhasDataM n = hasDataM n := fun _ => rfl
  unfold rdecodeM
  simp only [rfin_eq, hk, hI, hN, hD]
  have hc : (bif ((rrErrM (rrIntM (newRRd s)).2 == 0) && (decide ((rrIntM (newRRd s)).1 < 1) || decide ((rrIntM (newRRd s)).1 > 7))) then (mz, (7 : Int)) else fin (rbodyR (rrIntM (newRRd s)).1 (rrIntM (newRRd s)).2).1 (rrEndM (rbodyR (rrIntM (newRRd s)).1 (rrIntM (newRRd s)).2).2) (rmCheckM (rbodyR (rrIntM (newRRd s)).1 (rrIntM (newRRd s)).2).1)) =
      if rrErrM (rrIntM (newRRd s)).2 = 0 ∧ ((rrIntM (newRRd s)).1 < 1 ∨ 7 < (rrIntM (newRRd s)).1) then (mz, 7) else
    fin (rbodyR (rrIntM (newRRd s)).1 (rrIntM (newRRd s)).2).1 (rrEndM (rbodyR (rrIntM (newRRd s)).1 (rrIntM (newRRd s)).2).2) (rmCheckM (rbodyR (rrIntM (newRRd s)).1 (rrIntM (newRRd s)).2).1) := by
    simp only [cond_eq_ite, Bool.and_eq_true, Bool.or_eq_true, beq_iff_eq, decide_eq_true_eq, gt_iff_lt]
  rw [← hc]
  congr 1
  unfold rdecodeM_v5 rdecodeM_v9 rdecodeM_v8
  simp only [hk, hk6, hI, hN, hD]
  unfold rdecodeM_v4 rdecodeM_v7 rdecodeM_v6
  simp only [hk, hI, hN, hD, hL]
  unfold rdecodeM_v2 rdecodeM_v1
  simp only [hE]
  unfold rbodyR rbody rlist mapR
  simp only [bnd, opt]
  generalize rrIntM (newRRd s) = p
  cases hasEpochM p.1 <;> cases hasItemsM p.1 <;> cases hasNamesM p.1 <;> cases hasDataM p.1 <;> simp only [cond_true, cond_false]
def Keep {α : Type} (read : Rd → α × Rd) : Prop := ∀ r, rdErrM r ≠ 0 → (read r).2 = r
theorem Keep.bnd {α β : Type} {R1 : Rd → α × Rd} {R2 : α → Rd → β × Rd} (h1 : Keep R1) (h2 : ∀ a, Keep (R2 a)) : Keep (bnd R1 R2) := fun r h => by
 show (R2 (R1 r).1 (R1 r).2).2 = r
 rw [h1 r h]
 exact h2 _ r h
theorem Keep.opt {α : Type} {R : Rd → α × Rd} {d : α} (c : Bool) (h : Keep R) : Keep (opt c d R) := fun r hr => by
 cases c with
 | true => exact h r hr
 | false => rfl
theorem Keep.mapR {α β : Type} {f : α → β} {R : Rd → α × Rd} (h : Keep R) : Keep (mapR f R) := fun r hr => h r hr
theorem Keep.many {α : Type} {R : Rd → α × Rd} (h : Keep R) : ∀ n, Keep (rmany R n)
 | 0, r, hr => rfl
 | n + 1, r, hr => by
  show (rmany R n (R r).2).2 = r
  rw [h r hr]
  exact Keep.many h n r hr
theorem keep_int : Keep rdIntM := fun r h => by rw [int_bad h]
theorem keep_count (n : Int) : Keep (fun r => rdCountM r n) := fun r h => by
 show (rdCountM r n).2 = r
 rw [count_bad n h]
theorem keep_text (n : Int) : Keep (fun r => rdTextM r n) := fun r h => by
 show (rdTextM r n).2 = r
 rw [text_bad n h]
theorem keep_take : Keep takeM := fun r h => by rw [take_bad h]
theorem keep_body (k : Int) : Keep (dbody k) :=
 Keep.mapR (Keep.bnd keep_int fun d => Keep.bnd (Keep.opt _ keep_int) fun _ => Keep.bnd keep_int fun _ => Keep.bnd (Keep.opt _ (Keep.mapR (Keep.bnd (keep_count 7) fun n => Keep.many (Keep.mapR (Keep.bnd (keep_text 24) fun _ => Keep.bnd (keep_text 24) fun _ => Keep.bnd keep_take fun _ => keep_int)) n.toNat))) fun _ =>
  Keep.bnd (Keep.opt _ (keep_text 24)) fun _ => Keep.bnd (Keep.opt _ (keep_text 24)) fun _ => Keep.opt _ (keep_text 512))
theorem rel_new {s : ByteArray} (h : s.size ≤ 1000000) : Rel (newRd s) (newRRd s) := by
 refine ⟨newRRd_keep h, ?_⟩
 show (⟨s, 0, true⟩ : Rd) = ⟨s.extract (0 : Int).toNat s.size, 0, true⟩
 rw [show s.extract (0 : Int).toNat s.size = s from bytes_ext (by rw [ext_list]; rfl)]
theorem decode_same {s : ByteArray} (h : s.size ≤ 1000000) : decodeM s = rdecodeM s := by
 obtain ⟨a1, a2⟩ := sim_int _ _ (rel_new h)
 obtain ⟨b1, b2⟩ := sim_body (rrIntM (newRRd s)).1 _ _ a2
 rw [decode_eq, rdecode_eq, bodyD_eq, a1, ← b1, ← sim_end b2, ← mcheck_eq, rel_err a2]
 by_cases h0 : rrErrM (rrIntM (newRRd s)).2 = 0
 ·rw [if_neg (by simpa using h0)]
  by_cases hk : (rrIntM (newRRd s)).1 < 1 ∨ 7 < (rrIntM (newRRd s)).1
  ·rw [if_pos hk, if_pos ⟨h0, hk⟩]
  ·rw [if_neg hk, if_neg (fun hq => hk hq.2)]
 ·rw [if_pos h0, if_neg (fun hq => h0 hq.1)]
  have hr : rdErrM (rdIntM (newRd s)).2 ≠ 0 := by rw [rel_err a2]; exact h0
  rw [keep_body _ _ hr]
  have he : rdEndM (rdIntM (newRd s)).2 = rrErrM (rrIntM (newRRd s)).2 := by
   unfold rdEndM rdLeftM
   rw [show (rdErrM (rdIntM (newRd s)).2 != 0) = true by simpa using hr, rel_err a2]
   rfl
  rw [he]
  unfold fin
  rw [if_pos h0]
theorem scan_none {R : Type} {b : Nat → Option R} {n : Nat} (h : ∀ j, j < n → b j = none) : scanN b 0 n = none := scanN_all.2 fun j _ hj => h j (by omega)
theorem same_refl (m : MsgV) : msameM m m = true := by
 have hl : msameM_L1 m m = none := scan_none fun j _ => by
  unfold msameM_B1
  cases m.items[j]? with
  | none => rfl
  | some x =>
   dsimp only
   simp only [beqS_true.2 rfl, beq_self_eq_true, Bool.and_self, Bool.not_true, cond_false]
 unfold msameM
 rw [hl]
 simp only [beqS_true.2 rfl, bne_self_eq_false, Bool.not_true, Bool.or_self, cond_false]
 rfl
theorem lDecodes_true (s : ByteArray) : lDecodesM s = true := by
 unfold lDecodesM
 rw [awake_true]
 by_cases h : (s.size : Int) > 1200
 ·rw [decide_eq_true h]; rfl
 ·rw [decide_eq_false h, decode_same (by omega), same_refl]
  simp
end Go.Proofs.Ytnnlaccdendkpaa
