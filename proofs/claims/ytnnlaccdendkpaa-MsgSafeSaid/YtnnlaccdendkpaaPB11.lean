/- The statements: the way back. -/
import Derived.Test.YtnnlaccdendkpaaPRj
namespace Go.Proofs.Ytnnlaccdendkpaa
open Go Go.Av Go.Hh Go.Proofs
set_option maxRecDepth 100000
set_option maxHeartbeats 4000000
def lReturnsM (m : MsgV) : Bool :=
 (bif !(smallM m) then awakeM  else (bif (((encodeM m).2) != mCheckM m) then false else (bif (((encodeM m).2) != 0) then (beqS ((encodeM m).1) (⟨#[]⟩) && awakeM ) else (((((decodeM ((encodeM m).1)).2) == 0) && (msameM ((decodeM ((encodeM m).1)).1) m && (decide (((((encodeM m).1).size : Nat) : Int) ≥ 4) && decide (((((encodeM m).1).size : Nat) : Int) ≤ 842)))) && awakeM ))))
abbrev lReturnsM_c1 (m : MsgV) : Nat × AObj := (0, .box 24 (avs (MsgV.cells m)))
theorem lReturnsM_ok (m : MsgV) :
 ACalls Try.prog G_ 6 [.agg (avs (MsgV.cells m))] [] 0 (fun r τ => r = vb (lReturnsM m) ∧ τ = []) := by
 refine ACalls.body Try.func6 rfl 52 [(0, .agg (avs (MsgV.cells m)))] ?_
 refine AWp.hz [.run 2] 52 [(1, .ptr 0 0)] [(lReturnsM_c1 m)] 1 ?_
 refine AWp.seq ?_
 refine AWp.hz [.run 1, .call 9 [.agg (avs (MsgV.cells m))] (vb (smallM m)) [] 0 (smallM_ok m), .run 1] 52 [(1, .ptr 0 0), (9, vb (!(smallM m)))] [(lReturnsM_c1 m)] 1 ?_
 refine AWp.cnd (!(smallM m)) (fun h1 => ?_) (fun h1 => ?_)
 ·
  refine AWp.hz [.call 10 [] (vb (awakeM )) [] 0 (awakeM_ok ), .run 1] 52 [(2, vb (awakeM ))] [] 1 ?_
  refine AWp.ret ?_
  exact leafR (r := vb (awakeM )) (by unfold lReturnsM; (try rw [h1]); try kernel_rfl)
 ·
  refine AWp.skip ?_
  refine AWp.hz [.run 1, .call 13 [.agg (avs (MsgV.cells m))] (.tuple [vs ((encodeM m).1), vi ((encodeM m).2)]) [] 0 (encodeM_ok m (by first | with_reducible assumption | with_reducible exact small_d (by with_reducible assumption) | with_reducible exact small_i (by with_reducible assumption) | with_reducible exact small_l (by with_reducible assumption) | with_reducible exact small_c (by with_reducible assumption) | with_reducible exact small_n (by with_reducible assumption) | with_reducible exact dec_d (by with_reducible assumption) | with_reducible exact dec_i (by with_reducible assumption) | with_reducible exact dec_l (by with_reducible assumption) | with_reducible exact dec_c (by with_reducible assumption) | with_reducible exact dec_n (by with_reducible assumption) | with_reducible exact app_size (by with_reducible assumption) (Nat.le_refl _) | with_reducible exact cut_size (by with_reducible assumption) | with_reducible exact enc_size (by with_reducible assumption) | omega) (by first | with_reducible assumption | with_reducible exact small_d (by with_reducible assumption) | with_reducible exact small_i (by with_reducible assumption) | with_reducible exact small_l (by with_reducible assumption) | with_reducible exact small_c (by with_reducible assumption) | with_reducible exact small_n (by with_reducible assumption) | with_reducible exact dec_d (by with_reducible assumption) | with_reducible exact dec_i (by with_reducible assumption) | with_reducible exact dec_l (by with_reducible assumption) | with_reducible exact dec_c (by with_reducible assumption) | with_reducible exact dec_n (by with_reducible assumption) | with_reducible exact app_size (by with_reducible assumption) (Nat.le_refl _) | with_reducible exact cut_size (by with_reducible assumption) | with_reducible exact enc_size (by with_reducible assumption) | omega) (by first | with_reducible assumption | with_reducible exact small_d (by with_reducible assumption) | with_reducible exact small_i (by with_reducible assumption) | with_reducible exact small_l (by with_reducible assumption) | with_reducible exact small_c (by with_reducible assumption) | with_reducible exact small_n (by with_reducible assumption) | with_reducible exact dec_d (by with_reducible assumption) | with_reducible exact dec_i (by with_reducible assumption) | with_reducible exact dec_l (by with_reducible assumption) | with_reducible exact dec_c (by with_reducible assumption) | with_reducible exact dec_n (by with_reducible assumption) | with_reducible exact app_size (by with_reducible assumption) (Nat.le_refl _) | with_reducible exact cut_size (by with_reducible assumption) | with_reducible exact enc_size (by with_reducible assumption) | omega) (by first | with_reducible assumption | with_reducible exact small_d (by with_reducible assumption) | with_reducible exact small_i (by with_reducible assumption) | with_reducible exact small_l (by with_reducible assumption) | with_reducible exact small_c (by with_reducible assumption) | with_reducible exact small_n (by with_reducible assumption) | with_reducible exact dec_d (by with_reducible assumption) | with_reducible exact dec_i (by with_reducible assumption) | with_reducible exact dec_l (by with_reducible assumption) | with_reducible exact dec_c (by with_reducible assumption) | with_reducible exact dec_n (by with_reducible assumption) | with_reducible exact app_size (by with_reducible assumption) (Nat.le_refl _) | with_reducible exact cut_size (by with_reducible assumption) | with_reducible exact enc_size (by with_reducible assumption) | omega) (by first | with_reducible assumption | with_reducible exact small_d (by with_reducible assumption) | with_reducible exact small_i (by with_reducible assumption) | with_reducible exact small_l (by with_reducible assumption) | with_reducible exact small_c (by with_reducible assumption) | with_reducible exact small_n (by with_reducible assumption) | with_reducible exact dec_d (by with_reducible assumption) | with_reducible exact dec_i (by with_reducible assumption) | with_reducible exact dec_l (by with_reducible assumption) | with_reducible exact dec_c (by with_reducible assumption) | with_reducible exact dec_n (by with_reducible assumption) | with_reducible exact app_size (by with_reducible assumption) (Nat.le_refl _) | with_reducible exact cut_size (by with_reducible assumption) | with_reducible exact enc_size (by with_reducible assumption) | omega)), .run 5] 52 [(1, .ptr 0 0), (3, vs ((encodeM m).1)), (4, vi ((encodeM m).2))] [(lReturnsM_c1 m)] 1 ?_
  refine AWp.seq ?_
  refine AWp.hz [.run 2, .call 11 [.agg (avs (MsgV.cells m))] (vi (mCheckM m)) [] 0 (mCheckM_ok m (by first | with_reducible assumption | with_reducible exact small_d (by with_reducible assumption) | with_reducible exact small_i (by with_reducible assumption) | with_reducible exact small_l (by with_reducible assumption) | with_reducible exact small_c (by with_reducible assumption) | with_reducible exact small_n (by with_reducible assumption) | with_reducible exact dec_d (by with_reducible assumption) | with_reducible exact dec_i (by with_reducible assumption) | with_reducible exact dec_l (by with_reducible assumption) | with_reducible exact dec_c (by with_reducible assumption) | with_reducible exact dec_n (by with_reducible assumption) | with_reducible exact app_size (by with_reducible assumption) (Nat.le_refl _) | with_reducible exact cut_size (by with_reducible assumption) | with_reducible exact enc_size (by with_reducible assumption) | omega)), .run 1] 52 [(1, .ptr 0 0), (3, vs ((encodeM m).1)), (4, vi ((encodeM m).2)), (19, vb (((encodeM m).2) != mCheckM m))] [(lReturnsM_c1 m)] 1 ?_
  refine AWp.cnd ((((encodeM m).2) != mCheckM m)) (fun h2 => ?_) (fun h2 => ?_)
  ·
   refine AWp.hz [.run 1] 52 [(2, vb false)] [] 1 ?_
   refine AWp.ret ?_
   exact leafR (r := vb false) (by unfold lReturnsM; (try rw [h1]); (try rw [h2]); try kernel_rfl)
  ·
   refine AWp.skip ?_
   refine AWp.seq ?_
   refine AWp.hz [.run 2] 52 [(1, .ptr 0 0), (3, vs ((encodeM m).1)), (21, vb (((encodeM m).2) != 0))] [(lReturnsM_c1 m)] 1 ?_
   refine AWp.cnd ((((encodeM m).2) != 0)) (fun h3 => ?_) (fun h3 => ?_)
   ·
    refine AWp.join (Z 52 [(2, vb (beqS ((encodeM m).1) (⟨#[]⟩) && awakeM ))] [] 1) ?_ ?_
    ·
     refine AWp.region ?_
     refine AOps.hg [.run 3] (beqS ((encodeM m).1) (⟨#[]⟩)) 52 (fun b_ => [(24, vb b_)]) [] 1 (fun hg4 => ?_) (fun hg4 => ?_)
     ·
      refine AOps.he [.call 10 [] (vb (awakeM )) [] 0 (awakeM_ok ), .run 2] 52 [(2, vb (awakeM ))] [] 1 ?_
      exact leZ (by rw [hg4]; try kernel_rfl)
     ·
      refine AOps.he [.run 3] 52 [(2, vb false)] [] 1 ?_
      exact leZ (by rw [hg4]; try kernel_rfl)
    ·
     refine AWp.ret ?_
     exact leafR (r := vb (beqS ((encodeM m).1) (⟨#[]⟩) && awakeM )) (by unfold lReturnsM; (try rw [h1]); (try rw [h2]); (try rw [h3]); try kernel_rfl)
   ·
    refine AWp.skip ?_
    refine AWp.hz [.run 1, .call 15 [vs ((encodeM m).1)] (.tuple [.agg (avs (MsgV.cells ((decodeM ((encodeM m).1)).1))), vi ((decodeM ((encodeM m).1)).2)]) [] 0 (decodeM_ok ((encodeM m).1) (by first | with_reducible assumption | with_reducible exact small_d (by with_reducible assumption) | with_reducible exact small_i (by with_reducible assumption) | with_reducible exact small_l (by with_reducible assumption) | with_reducible exact small_c (by with_reducible assumption) | with_reducible exact small_n (by with_reducible assumption) | with_reducible exact dec_d (by with_reducible assumption) | with_reducible exact dec_i (by with_reducible assumption) | with_reducible exact dec_l (by with_reducible assumption) | with_reducible exact dec_c (by with_reducible assumption) | with_reducible exact dec_n (by with_reducible assumption) | with_reducible exact app_size (by with_reducible assumption) (Nat.le_refl _) | with_reducible exact cut_size (by with_reducible assumption) | with_reducible exact enc_size (by with_reducible assumption) | omega)), .run 6] 52 [(1, .ptr 0 0), (3, vs ((encodeM m).1)), (5, .ptr 1 0), (6, vi ((decodeM ((encodeM m).1)).2))] [(1, .box 24 (avs (MsgV.cells ((decodeM ((encodeM m).1)).1)))), (lReturnsM_c1 m)] 2 ?_
    refine AWp.join (Z 52 [(2, vb (((((decodeM ((encodeM m).1)).2) == 0) && (msameM ((decodeM ((encodeM m).1)).1) m && (decide (((((encodeM m).1).size : Nat) : Int) ≥ 4) && decide (((((encodeM m).1).size : Nat) : Int) ≤ 842)))) && awakeM ))] [] 2) ?_ ?_
    ·
     refine AWp.region ?_
     refine AOps.hg [.run 3] ((((decodeM ((encodeM m).1)).2) == 0)) 52 (fun b_ => [(1, .ptr 0 0), (3, vs ((encodeM m).1)), (5, .ptr 1 0), (34, vb b_)]) [(1, .box 24 (avs (MsgV.cells ((decodeM ((encodeM m).1)).1)))), (lReturnsM_c1 m)] 2 (fun hg5 => ?_) (fun hg5 => ?_)
     ·
      refine AOps.hg [.run 2, .call 17 [.agg (avs (MsgV.cells ((decodeM ((encodeM m).1)).1))), .agg (avs (MsgV.cells m))] (vb (msameM ((decodeM ((encodeM m).1)).1) m)) [] 0 (msameM_ok ((decodeM ((encodeM m).1)).1) m), .run 2] (msameM ((decodeM ((encodeM m).1)).1) m) 52 (fun b_ => [(3, vs ((encodeM m).1)), (39, vb b_)]) [] 2 (fun hg6 => ?_) (fun hg6 => ?_)
      ·
       refine AOps.hg [.run 5] (decide (((((encodeM m).1).size : Nat) : Int) ≥ 4)) 52 (fun b_ => [(3, vs ((encodeM m).1)), (44, vb b_)]) [] 2 (fun hg7 => ?_) (fun hg7 => ?_)
       ·
        have hg7' := of_decide_eq_true hg7
        refine AOps.hg [.run 5] (decide (((((encodeM m).1).size : Nat) : Int) ≤ 842)) 52 (fun b_ => [(49, vb b_)]) [] 2 (fun hg8 => ?_) (fun hg8 => ?_)
        ·
         have hg8' := of_decide_eq_true hg8
         refine AOps.he [.call 10 [] (vb (awakeM )) [] 0 (awakeM_ok ), .run 2] 52 [(2, vb (awakeM ))] [] 2 ?_
         exact leZ (by rw [hg5, hg6, hg7, hg8]; try kernel_rfl)
        ·
         have hg8' := of_decide_eq_false hg8
         refine AOps.he [.run 3] 52 [(2, vb false)] [] 2 ?_
         exact leZ (by rw [hg5, hg6, hg7, hg8]; try kernel_rfl)
       ·
        have hg7' := of_decide_eq_false hg7
        refine AOps.he [.run 8] 52 [(2, vb false)] [] 2 ?_
        exact leZ (by rw [hg5, hg6, hg7]; try kernel_rfl)
      ·
       refine AOps.he [.run 13] 52 [(2, vb false)] [] 2 ?_
       exact leZ (by rw [hg5, hg6]; try kernel_rfl)
     ·
      refine AOps.he [.run 18] 52 [(2, vb false)] [] 2 ?_
      exact leZ (by rw [hg5]; try kernel_rfl)
    ·
     refine AWp.ret ?_
     exact leafR (r := vb (((((decodeM ((encodeM m).1)).2) == 0) && (msameM ((decodeM ((encodeM m).1)).1) m && (decide (((((encodeM m).1).size : Nat) : Int) ≥ 4) && decide (((((encodeM m).1).size : Nat) : Int) ≤ 842)))) && awakeM )) (by unfold lReturnsM; (try rw [h1]); (try rw [h2]); (try rw [h3]); try kernel_rfl)
end Go.Proofs.Ytnnlaccdendkpaa
