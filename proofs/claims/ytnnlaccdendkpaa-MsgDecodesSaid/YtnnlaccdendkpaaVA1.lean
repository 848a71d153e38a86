/- Functions without loops: the contracts. -/
import Derived.Test.YtnnlaccdendkpaaProg
import Derived.Test.YtnnlaccdendkpaaVTy
import Derived.Test.YtnnlaccdendkpaaVMx
namespace Go.Proofs.Ytnnlaccdendkpaa
open Go Go.Av Go.Hh Go.Proofs
set_option maxRecDepth 100000
set_option maxHeartbeats 4000000
def G_ : Glob := fun _ => none
def letterM (c : Int) : Bool :=
 (decide (c ≥ 97) && decide (c ≤ 122))
theorem letterM_ok (c : Int) :
 ACalls Try.prog G_ 72 [.rv (.v (.int .i32 c))] [] 0 (fun r τ => r = vb (letterM c) ∧ τ = []) := by
 refine ACalls.body Try.func72 rfl 9 [(0, .rv (.v (.int .i32 c)))] ?_
 refine AWp.hz [.run 1] 9 [(0, .rv (.v (.int .i32 c)))] [] 0 ?_
 refine AWp.join (Z 9 [(2, vb (decide (c ≥ 97) && decide (c ≤ 122)))] [] 0) ?_ ?_
 ·
  refine AWp.region ?_
  refine AOps.hg [.run 3] (decide (c ≥ 97)) 9 (fun b_ => [(0, .rv (.v (.int .i32 c))), (5, vb b_)]) [] 0 (fun hg1 => ?_) (fun hg1 => ?_)
  ·
   have hg1' := of_decide_eq_true hg1
   refine AOps.he [.run 4] 9 [(2, vb (decide (c ≤ 122)))] [] 0 ?_
   exact leZ (by rw [hg1]; try kernel_rfl)
  ·
   have hg1' := of_decide_eq_false hg1
   refine AOps.he [.run 4] 9 [(2, vb false)] [] 0 ?_
   exact leZ (by rw [hg1]; try kernel_rfl)
 ·
  refine AWp.ret ?_
  exact leafR (r := vb (decide (c ≥ 97) && decide (c ≤ 122))) (by unfold letterM; try kernel_rfl)
def inRangeM (n : Int) : Bool :=
 (decide (n ≥ -1099511627776) && decide (n ≤ 1099511627776))
theorem inRangeM_ok (n : Int) :
 ACalls Try.prog G_ 82 [vi n] [] 0 (fun r τ => r = vb (inRangeM n) ∧ τ = []) := by
 refine ACalls.body Try.func82 rfl 9 [(0, vi n)] ?_
 refine AWp.hz [.run 1] 9 [(0, vi n)] [] 0 ?_
 refine AWp.join (Z 9 [(2, vb (decide (n ≥ -1099511627776) && decide (n ≤ 1099511627776)))] [] 0) ?_ ?_
 ·
  refine AWp.region ?_
  refine AOps.hg [.run 3] (decide (n ≥ -1099511627776)) 9 (fun b_ => [(0, vi n), (5, vb b_)]) [] 0 (fun hg1 => ?_) (fun hg1 => ?_)
  ·
   have hg1' := of_decide_eq_true hg1
   refine AOps.he [.run 4] 9 [(2, vb (decide (n ≤ 1099511627776)))] [] 0 ?_
   exact leZ (by rw [hg1]; try kernel_rfl)
  ·
   have hg1' := of_decide_eq_false hg1
   refine AOps.he [.run 4] 9 [(2, vb false)] [] 0 ?_
   exact leZ (by rw [hg1]; try kernel_rfl)
 ·
  refine AWp.ret ?_
  exact leafR (r := vb (decide (n ≥ -1099511627776) && decide (n ≤ 1099511627776))) (by unfold inRangeM; try kernel_rfl)
def vCheckM (v : Val) : Int :=
 (bif (((v.kind == 0) || (v.kind == 4)) || ((v.kind == 1) || ((v.kind == 2) || (v.kind == 3)))) then (bif !(bif ((v.kind == 0) || (v.kind == 4)) then (v.n == 0) else (bif (v.kind == 1) then ((v.n == 0) || (v.n == 1)) else (bif (v.kind == 2) then inRangeM v.n else (decide (v.n ≥ 0) && decide (v.n ≤ 63))))) then 2 else (bif decide ((v.s.size : Int) > 60) then 3 else (bif (!beqS v.s (⟨#[]⟩) && (v.kind != 4)) then 4 else 0))) else 7)
abbrev vCheckM_c1 (v : Val) : Nat × AObj := (0, .box 53 (avs (Val.cells v)))
theorem vCheckM_ok (v : Val) :
 ACalls Try.prog G_ 71 [.agg (avs (Val.cells v))] [] 0 (fun r τ => r = vi (vCheckM v) ∧ τ = []) := by
 refine ACalls.body Try.func71 rfl 54 [(0, .agg (avs (Val.cells v)))] ?_
 refine AWp.hz [.run 2] 54 [(1, .ptr 0 0)] [(vCheckM_c1 v)] 1 ?_
 refine AWp.hz [.run 1] 54 [(1, .ptr 0 0)] [(vCheckM_c1 v)] 1 ?_
 refine AWp.joinP (Z 54 [(1, .ptr 0 0), (3, vb (bif ((v.kind == 0) || (v.kind == 4)) then (v.n == 0) else (bif (v.kind == 1) then ((v.n == 0) || (v.n == 1)) else (bif (v.kind == 2) then inRangeM v.n else (decide (v.n ≥ 0) && decide (v.n ≤ 63))))))] [(0, .box 53 (avs (Val.cells v)))] 1) ((((v.kind == 0) || (v.kind == 4)) || ((v.kind == 1) || ((v.kind == 2) || (v.kind == 3)))) = true) ?_ (fun hj1 => ?_)
 ·
  refine AWp.hz [.run 2] 54 [(1, .ptr 0 0), (5, vi v.kind)] [(vCheckM_c1 v)] 1 ?_
  refine AWp.block ?_
  refine AWp.join (Z 54 [(1, .ptr 0 0), (5, vi v.kind), (6, vb ((v.kind == 0) || (v.kind == 4)))] [(0, .box 53 (avs (Val.cells v)))] 1) ?_ ?_
  ·
   refine AWp.hz [.run 2] 54 [(1, .ptr 0 0), (5, vi v.kind), (6, vb (v.kind == 0))] [(vCheckM_c1 v)] 1 ?_
   refine AWp.cnd ((v.kind == 0)) (fun h2 => ?_) (fun h2 => ?_)
   ·
    refine AWp.skip ?_
    exact leZ (by rw [h2]; try kernel_rfl)
   ·
    refine AWp.he [.run 2] 54 [(1, .ptr 0 0), (5, vi v.kind), (6, vb (v.kind == 4))] [(vCheckM_c1 v)] 1 ?_
    exact leZ (by rw [h2]; try kernel_rfl)
  ·
   refine AWp.cnd (((v.kind == 0) || (v.kind == 4))) (fun h3 => ?_) (fun h3 => ?_)
   ·
    refine AWp.he [.run 4] 54 [(1, .ptr 0 0), (3, vb (v.n == 0))] [(vCheckM_c1 v)] 1 ?_
    exact ⟨leZ (by rw [h3]; try kernel_rfl), by rw [h3]; try kernel_rfl⟩
   ·
    have h3l := or_fl h3
    have h3r := or_fr h3
    refine AWp.hz [.run 2] 54 [(1, .ptr 0 0), (5, vi v.kind), (12, vb (v.kind == 1))] [(vCheckM_c1 v)] 1 ?_
    refine AWp.cnd ((v.kind == 1)) (fun h4 => ?_) (fun h4 => ?_)
    ·
     refine AWp.region ?_
     refine AOps.hg [.run 4] ((v.n == 0)) 54 (fun b_ => [(1, .ptr 0 0), (17, vb b_)]) [(vCheckM_c1 v)] 1 (fun hg5 => ?_) (fun hg5 => ?_)
     ·
      refine AOps.he [.run 5] 54 [(1, .ptr 0 0), (3, vb true)] [(vCheckM_c1 v)] 1 ?_
      exact ⟨leZ (by rw [h3, h4, hg5]; try kernel_rfl), by rw [h3, h4]; try kernel_rfl⟩
     ·
      refine AOps.he [.run 5] 54 [(1, .ptr 0 0), (3, vb (v.n == 1))] [(vCheckM_c1 v)] 1 ?_
      exact ⟨leZ (by rw [h3, h4, hg5]; try kernel_rfl), by rw [h3, h4]; try kernel_rfl⟩
    ·
     refine AWp.hz [.run 2] 54 [(1, .ptr 0 0), (5, vi v.kind), (22, vb (v.kind == 2))] [(vCheckM_c1 v)] 1 ?_
     refine AWp.cnd ((v.kind == 2)) (fun h6 => ?_) (fun h6 => ?_)
     ·
      refine AWp.he [.run 2, .call 82 [vi v.n] (vb (inRangeM v.n)) [] 0 (inRangeM_ok v.n), .run 1] 54 [(1, .ptr 0 0), (3, vb (inRangeM v.n))] [(vCheckM_c1 v)] 1 ?_
      exact ⟨leZ (by rw [h3, h4, h6]; try kernel_rfl), by rw [h3, h4, h6]; try kernel_rfl⟩
     ·
      refine AWp.hz [.run 2] 54 [(1, .ptr 0 0), (27, vb (v.kind == 3))] [(vCheckM_c1 v)] 1 ?_
      refine AWp.cnd ((v.kind == 3)) (fun h7 => ?_) (fun h7 => ?_)
      ·
       refine AWp.region ?_
       refine AOps.hg [.run 4] (decide (v.n ≥ 0)) 54 (fun b_ => [(1, .ptr 0 0), (32, vb b_)]) [(vCheckM_c1 v)] 1 (fun hg8 => ?_) (fun hg8 => ?_)
       ·
        have hg8' := of_decide_eq_true hg8
        refine AOps.he [.run 5] 54 [(1, .ptr 0 0), (3, vb (decide (v.n ≤ 63)))] [(vCheckM_c1 v)] 1 ?_
        exact ⟨leZ (by rw [h3, h4, h6, hg8]; try kernel_rfl), by rw [h3, h4, h6, h7]; try kernel_rfl⟩
       ·
        have hg8' := of_decide_eq_false hg8
        refine AOps.he [.run 5] 54 [(1, .ptr 0 0), (3, vb false)] [(vCheckM_c1 v)] 1 ?_
        exact ⟨leZ (by rw [h3, h4, h6, hg8]; try kernel_rfl), by rw [h3, h4, h6, h7]; try kernel_rfl⟩
      ·
       refine AWp.hz [.run 1] 54 [(2, vi 7)] [] 1 ?_
       refine AWp.ret ?_
       exact leafR (r := vi 7) (by unfold vCheckM; (try rw [h3]); (try rw [h4]); (try rw [h6]); (try rw [h7]); try kernel_rfl)
 ·
  refine AWp.seq ?_
  refine AWp.block ?_
  refine AWp.hz [.run 3] 54 [(1, .ptr 0 0), (37, vb (!(bif ((v.kind == 0) || (v.kind == 4)) then (v.n == 0) else (bif (v.kind == 1) then ((v.n == 0) || (v.n == 1)) else (bif (v.kind == 2) then inRangeM v.n else (decide (v.n ≥ 0) && decide (v.n ≤ 63)))))))] [(vCheckM_c1 v)] 1 ?_
  refine AWp.cnd (!(bif ((v.kind == 0) || (v.kind == 4)) then (v.n == 0) else (bif (v.kind == 1) then ((v.n == 0) || (v.n == 1)) else (bif (v.kind == 2) then inRangeM v.n else (decide (v.n ≥ 0) && decide (v.n ≤ 63)))))) (fun h9 => ?_) (fun h9 => ?_)
  ·
   refine AWp.hz [.run 1] 54 [(2, vi 2)] [] 1 ?_
   refine AWp.ret ?_
   exact leafR (r := vi 2) (by unfold vCheckM; (try rw [hj1]); (try rw [h9]); try kernel_rfl)
  ·
   refine AWp.hz [.run 5] 54 [(1, .ptr 0 0), (40, vb (decide ((v.s.size : Int) > 60)))] [(vCheckM_c1 v)] 1 ?_
   refine AWp.cnd (decide ((v.s.size : Int) > 60)) (fun h10 => ?_) (fun h10 => ?_)
   ·
    have h10' := of_decide_eq_true h10
    refine AWp.hz [.run 1] 54 [(2, vi 3)] [] 1 ?_
    refine AWp.ret ?_
    exact leafR (r := vi 3) (by unfold vCheckM; (try rw [hj1]); (try rw [h9]); (try rw [h10]); try kernel_rfl)
   ·
    have h10' := of_decide_eq_false h10
    refine AWp.join (Z 54 [(45, vb (!beqS v.s (⟨#[]⟩) && (v.kind != 4)))] [] 1) ?_ ?_
    ·
     refine AWp.region ?_
     refine AOps.hg [.run 4] (!beqS v.s (⟨#[]⟩)) 54 (fun b_ => [(1, .ptr 0 0), (49, vb b_)]) [(vCheckM_c1 v)] 1 (fun hg11 => ?_) (fun hg11 => ?_)
     ·
      refine AOps.he [.run 5] 54 [(45, vb (v.kind != 4))] [] 1 ?_
      exact leZ (by rw [hg11]; try kernel_rfl)
     ·
      refine AOps.he [.run 5] 54 [(45, vb false)] [] 1 ?_
      exact leZ (by rw [hg11]; try kernel_rfl)
    ·
     refine AWp.cnd ((!beqS v.s (⟨#[]⟩) && (v.kind != 4))) (fun h12 => ?_) (fun h12 => ?_)
     ·
      have h12l := and_tl h12
      have h12r := and_tr h12
      refine AWp.hz [.run 1] 54 [(2, vi 4)] [] 1 ?_
      refine AWp.ret ?_
      exact leafR (r := vi 4) (by unfold vCheckM; (try rw [hj1]); (try rw [h9]); (try rw [h10]); (try rw [h12]); try kernel_rfl)
     ·
      refine AWp.skip ?_
      refine AWp.hz [.run 1] 54 [(2, vi 0)] [] 1 ?_
      refine AWp.ret ?_
      exact leafR (r := vi 0) (by unfold vCheckM; (try rw [hj1]); (try rw [h9]); (try rw [h10]); (try rw [h12]); try kernel_rfl)
def rvCheckM (v : Val) : Int :=
 (bif (((v.kind == 0) || (v.kind == 4)) || ((v.kind == 1) || ((v.kind == 2) || (v.kind == 3)))) then (bif (decide (v.n < (bif (((v.kind == 0) || (v.kind == 4)) || ((v.kind == 1) || !(v.kind == 2))) then 0 else -1099511627776)) || decide (v.n > (bif ((v.kind == 0) || (v.kind == 4)) then 0 else (bif (v.kind == 1) then 1 else (bif (v.kind == 2) then 1099511627776 else 63))))) then 2 else (bif decide ((v.s.size : Int) > 60) then 3 else (bif (!beqS v.s (⟨#[]⟩) && (v.kind != 4)) then 4 else 0))) else 7)
abbrev rvCheckM_c1 (v : Val) : Nat × AObj := (0, .box 53 (avs (Val.cells v)))
theorem rvCheckM_ok (v : Val) :
 ACalls Try.prog G_ 73 [.agg (avs (Val.cells v))] [] 0 (fun r τ => r = vi (rvCheckM v) ∧ τ = []) := by
 refine ACalls.body Try.func73 rfl 38 [(0, .agg (avs (Val.cells v)))] ?_
 refine AWp.hz [.run 2] 38 [(1, .ptr 0 0)] [(rvCheckM_c1 v)] 1 ?_
 refine AWp.hz [.run 2] 38 [(1, .ptr 0 0), (3, vi 0), (4, vi 0)] [(rvCheckM_c1 v)] 1 ?_
 refine AWp.joinP (Z 38 [(1, .ptr 0 0), (3, vi (bif (((v.kind == 0) || (v.kind == 4)) || ((v.kind == 1) || !(v.kind == 2))) then 0 else -1099511627776)), (4, vi (bif ((v.kind == 0) || (v.kind == 4)) then 0 else (bif (v.kind == 1) then 1 else (bif (v.kind == 2) then 1099511627776 else 63))))] [(0, .box 53 (avs (Val.cells v)))] 1) ((((v.kind == 0) || (v.kind == 4)) || ((v.kind == 1) || ((v.kind == 2) || (v.kind == 3)))) = true) ?_ (fun hj1 => ?_)
 ·
  refine AWp.hz [.run 2] 38 [(1, .ptr 0 0), (3, vi 0), (4, vi 0), (6, vi v.kind)] [(rvCheckM_c1 v)] 1 ?_
  refine AWp.block ?_
  refine AWp.join (Z 38 [(1, .ptr 0 0), (3, vi 0), (4, vi 0), (6, vi v.kind), (7, vb ((v.kind == 0) || (v.kind == 4)))] [(0, .box 53 (avs (Val.cells v)))] 1) ?_ ?_
  ·
   refine AWp.hz [.run 2] 38 [(1, .ptr 0 0), (3, vi 0), (4, vi 0), (6, vi v.kind), (7, vb (v.kind == 0))] [(rvCheckM_c1 v)] 1 ?_
   refine AWp.cnd ((v.kind == 0)) (fun h2 => ?_) (fun h2 => ?_)
   ·
    refine AWp.skip ?_
    exact leZ (by rw [h2]; try kernel_rfl)
   ·
    refine AWp.he [.run 2] 38 [(1, .ptr 0 0), (3, vi 0), (4, vi 0), (6, vi v.kind), (7, vb (v.kind == 4))] [(rvCheckM_c1 v)] 1 ?_
    exact leZ (by rw [h2]; try kernel_rfl)
  ·
   refine AWp.cnd (((v.kind == 0) || (v.kind == 4))) (fun h3 => ?_) (fun h3 => ?_)
   ·
    refine AWp.skip ?_
    exact ⟨leZ (by rw [h3]; try kernel_rfl), by rw [h3]; try kernel_rfl⟩
   ·
    have h3l := or_fl h3
    have h3r := or_fr h3
    refine AWp.hz [.run 2] 38 [(1, .ptr 0 0), (3, vi 0), (6, vi v.kind), (10, vb (v.kind == 1))] [(rvCheckM_c1 v)] 1 ?_
    refine AWp.cnd ((v.kind == 1)) (fun h4 => ?_) (fun h4 => ?_)
    ·
     refine AWp.he [.run 1] 38 [(1, .ptr 0 0), (3, vi 0), (4, vi 1)] [(rvCheckM_c1 v)] 1 ?_
     exact ⟨leZ (by rw [h3, h4]; try kernel_rfl), by rw [h3, h4]; try kernel_rfl⟩
    ·
     refine AWp.hz [.run 2] 38 [(1, .ptr 0 0), (3, vi 0), (6, vi v.kind), (12, vb (v.kind == 2))] [(rvCheckM_c1 v)] 1 ?_
     refine AWp.cnd ((v.kind == 2)) (fun h5 => ?_) (fun h5 => ?_)
     ·
      refine AWp.he [.run 2] 38 [(1, .ptr 0 0), (3, vi (-1099511627776)), (4, vi 1099511627776)] [(rvCheckM_c1 v)] 1 ?_
      exact ⟨leZ (by rw [h3, h4, h5]; try kernel_rfl), by rw [h3, h4, h5]; try kernel_rfl⟩
     ·
      refine AWp.hz [.run 2] 38 [(1, .ptr 0 0), (3, vi 0), (14, vb (v.kind == 3))] [(rvCheckM_c1 v)] 1 ?_
      refine AWp.cnd ((v.kind == 3)) (fun h6 => ?_) (fun h6 => ?_)
      ·
       refine AWp.he [.run 1] 38 [(1, .ptr 0 0), (3, vi 0), (4, vi 63)] [(rvCheckM_c1 v)] 1 ?_
       exact ⟨leZ (by rw [h3, h4, h5]; try kernel_rfl), by rw [h3, h4, h5, h6]; try kernel_rfl⟩
      ·
       refine AWp.hz [.run 1] 38 [(2, vi 7)] [] 1 ?_
       refine AWp.ret ?_
       exact leafR (r := vi 7) (by unfold rvCheckM; (try rw [h3]); (try rw [h4]); (try rw [h5]); (try rw [h6]); try kernel_rfl)
 ·
  refine AWp.seq ?_
  refine AWp.join (Z 38 [(1, .ptr 0 0), (25, vb (decide (v.n < (bif (((v.kind == 0) || (v.kind == 4)) || ((v.kind == 1) || !(v.kind == 2))) then 0 else -1099511627776)) || decide (v.n > (bif ((v.kind == 0) || (v.kind == 4)) then 0 else (bif (v.kind == 1) then 1 else (bif (v.kind == 2) then 1099511627776 else 63))))))] [(0, .box 53 (avs (Val.cells v)))] 1) ?_ ?_
  ·
   refine AWp.region ?_
   refine AOps.hg [.run 5] (decide (v.n < (bif (((v.kind == 0) || (v.kind == 4)) || ((v.kind == 1) || !(v.kind == 2))) then 0 else -1099511627776))) 38 (fun b_ => [(1, .ptr 0 0), (4, vi (bif ((v.kind == 0) || (v.kind == 4)) then 0 else (bif (v.kind == 1) then 1 else (bif (v.kind == 2) then 1099511627776 else 63)))), (20, vb b_)]) [(rvCheckM_c1 v)] 1 (fun hg7 => ?_) (fun hg7 => ?_)
   ·
    have hg7' := of_decide_eq_true hg7
    refine AOps.he [.run 5] 38 [(1, .ptr 0 0), (25, vb true)] [(rvCheckM_c1 v)] 1 ?_
    exact leZ (by rw [hg7]; try kernel_rfl)
   ·
    have hg7' := of_decide_eq_false hg7
    refine AOps.he [.run 5] 38 [(1, .ptr 0 0), (25, vb (decide (v.n > (bif ((v.kind == 0) || (v.kind == 4)) then 0 else (bif (v.kind == 1) then 1 else (bif (v.kind == 2) then 1099511627776 else 63))))))] [(rvCheckM_c1 v)] 1 ?_
    exact leZ (by rw [hg7]; try kernel_rfl)
  ·
   refine AWp.cnd ((decide (v.n < (bif (((v.kind == 0) || (v.kind == 4)) || ((v.kind == 1) || !(v.kind == 2))) then 0 else -1099511627776)) || decide (v.n > (bif ((v.kind == 0) || (v.kind == 4)) then 0 else (bif (v.kind == 1) then 1 else (bif (v.kind == 2) then 1099511627776 else 63)))))) (fun h8 => ?_) (fun h8 => ?_)
   ·
    refine AWp.hz [.run 1] 38 [(2, vi 2)] [] 1 ?_
    refine AWp.ret ?_
    exact leafR (r := vi 2) (by unfold rvCheckM; (try rw [hj1]); (try rw [h8]); try kernel_rfl)
   ·
    have h8l := or_fl h8
    have h8l' := of_decide_eq_false h8l
    have h8r := or_fr h8
    have h8r' := of_decide_eq_false h8r
    refine AWp.skip ?_
    refine AWp.seq ?_
    refine AWp.hz [.run 4] 38 [(1, .ptr 0 0), (29, vb (decide ((v.s.size : Int) > 60)))] [(rvCheckM_c1 v)] 1 ?_
    refine AWp.cnd (decide ((v.s.size : Int) > 60)) (fun h9 => ?_) (fun h9 => ?_)
    ·
     have h9' := of_decide_eq_true h9
     refine AWp.hz [.run 1] 38 [(2, vi 3)] [] 1 ?_
     refine AWp.ret ?_
     exact leafR (r := vi 3) (by unfold rvCheckM; (try rw [hj1]); (try rw [h8]); (try rw [h9]); try kernel_rfl)
    ·
     have h9' := of_decide_eq_false h9
     refine AWp.skip ?_
     refine AWp.seq ?_
     refine AWp.join (Z 38 [(37, vb (!beqS v.s (⟨#[]⟩) && (v.kind != 4)))] [] 1) ?_ ?_
     ·
      refine AWp.region ?_
      refine AOps.hg [.run 4] (!beqS v.s (⟨#[]⟩)) 38 (fun b_ => [(1, .ptr 0 0), (33, vb b_)]) [(rvCheckM_c1 v)] 1 (fun hg10 => ?_) (fun hg10 => ?_)
      ·
       refine AOps.he [.run 4] 38 [(37, vb (v.kind != 4))] [] 1 ?_
       exact leZ (by rw [hg10]; try kernel_rfl)
      ·
       refine AOps.he [.run 4] 38 [(37, vb false)] [] 1 ?_
       exact leZ (by rw [hg10]; try kernel_rfl)
     ·
      refine AWp.cnd ((!beqS v.s (⟨#[]⟩) && (v.kind != 4))) (fun h11 => ?_) (fun h11 => ?_)
      ·
       have h11l := and_tl h11
       have h11r := and_tr h11
       refine AWp.hz [.run 1] 38 [(2, vi 4)] [] 1 ?_
       refine AWp.ret ?_
       exact leafR (r := vi 4) (by unfold rvCheckM; (try rw [hj1]); (try rw [h8]); (try rw [h9]); (try rw [h11]); try kernel_rfl)
      ·
       refine AWp.skip ?_
       refine AWp.hz [.run 1] 38 [(2, vi 0)] [] 1 ?_
       refine AWp.ret ?_
       exact leafR (r := vi 0) (by unfold rvCheckM; (try rw [hj1]); (try rw [h8]); (try rw [h9]); (try rw [h11]); try kernel_rfl)
def zeroM (a : Attr) : Bool :=
 ((beqS a.name (⟨#[]⟩) && ((a.kind == 0) && ((a.min == 0) && ((a.max == 0) && (((a.enum.length : Int) == 0) && !a.writable))))) && !a.safety)
theorem zeroM_ok (a : Attr) :
 ACalls Try.prog G_ 97 [.agg (avs (Attr.cells a))] [] 0 (fun r τ => r = vb (zeroM a) ∧ τ = []) := by
 refine ACalls.body Try.func97 rfl 37 [(0, .agg (avs (Attr.cells a)))] ?_
 refine AWp.hz [.run 2] 37 [(1, .ptr 0 0)] [(0, .box 48 (avs (Attr.cells a)))] 1 ?_
 refine AWp.join (Z 37 [(2, vb ((beqS a.name (⟨#[]⟩) && ((a.kind == 0) && ((a.min == 0) && ((a.max == 0) && (((a.enum.length : Int) == 0) && !a.writable))))) && !a.safety))] [] 1) ?_ ?_
 ·
  refine AWp.region ?_
  refine AOps.hg [.run 4] (beqS a.name (⟨#[]⟩)) 37 (fun b_ => [(1, .ptr 0 0), (6, vb b_)]) [(0, .box 48 (avs (Attr.cells a)))] 1 (fun hg1 => ?_) (fun hg1 => ?_)
  ·
   refine AOps.hg [.run 5] ((a.kind == 0)) 37 (fun b_ => [(1, .ptr 0 0), (11, vb b_)]) [(0, .box 48 (avs (Attr.cells a)))] 1 (fun hg2 => ?_) (fun hg2 => ?_)
   ·
    refine AOps.hg [.run 5] ((a.min == 0)) 37 (fun b_ => [(1, .ptr 0 0), (16, vb b_)]) [(0, .box 48 (avs (Attr.cells a)))] 1 (fun hg3 => ?_) (fun hg3 => ?_)
    ·
     refine AOps.hg [.run 5] ((a.max == 0)) 37 (fun b_ => [(1, .ptr 0 0), (21, vb b_)]) [(0, .box 48 (avs (Attr.cells a)))] 1 (fun hg4 => ?_) (fun hg4 => ?_)
     ·
      refine AOps.hzl [.run 2, .len strC a.enum 1, .run 3] 37 [(1, .ptr 0 0), (27, vb ((a.enum.length : Int) == 0))] [(0, .box 48 (avs (Attr.cells a)))] 1 (fun hl => ?_)
      obtain ⟨hn5, -⟩ := hl
      refine AOps.hg [] (((a.enum.length : Int) == 0)) 37 (fun b_ => [(1, .ptr 0 0), (27, vb b_)]) [(0, .box 48 (avs (Attr.cells a)))] 1 (fun hg6 => ?_) (fun hg6 => ?_)
      ·
       have hg6' := beq_t hg6
       refine AOps.hg [.run 5] (!a.writable) 37 (fun b_ => [(1, .ptr 0 0), (32, vb b_)]) [(0, .box 48 (avs (Attr.cells a)))] 1 (fun hg7 => ?_) (fun hg7 => ?_)
       ·
        refine AOps.he [.run 5] 37 [(2, vb (!a.safety))] [] 1 ?_
        exact leZ (by rw [hg1, hg2, hg3, hg4, hg6, hg7]; try kernel_rfl)
       ·
        refine AOps.he [.run 5] 37 [(2, vb false)] [] 1 ?_
        exact leZ (by rw [hg1, hg2, hg3, hg4, hg6, hg7]; try kernel_rfl)
      ·
       have hg6' := beq_f hg6
       refine AOps.he [.run 10] 37 [(2, vb false)] [] 1 ?_
       exact leZ (by rw [hg1, hg2, hg3, hg4, hg6]; try kernel_rfl)
     ·
      refine AOps.he [.run 16] 37 [(2, vb false)] [] 1 ?_
      exact leZ (by rw [hg1, hg2, hg3, hg4]; try kernel_rfl)
    ·
     refine AOps.he [.run 21] 37 [(2, vb false)] [] 1 ?_
     exact leZ (by rw [hg1, hg2, hg3]; try kernel_rfl)
   ·
    refine AOps.he [.run 26] 37 [(2, vb false)] [] 1 ?_
    exact leZ (by rw [hg1, hg2]; try kernel_rfl)
  ·
   refine AOps.he [.run 31] 37 [(2, vb false)] [] 1 ?_
   exact leZ (by rw [hg1]; try kernel_rfl)
 ·
  refine AWp.ret ?_
  exact leafR (r := vb ((beqS a.name (⟨#[]⟩) && ((a.kind == 0) && ((a.min == 0) && ((a.max == 0) && (((a.enum.length : Int) == 0) && !a.writable))))) && !a.safety)) (by unfold zeroM; try kernel_rfl)
def satM (n : Int) : Int :=
 (if 1099511627776 < (if -1099511627776 > n then -1099511627776 else n) then 1099511627776 else (if -1099511627776 > n then -1099511627776 else n))
theorem satM_ok (n : Int) :
 ACalls Try.prog G_ 100 [vi n] [] 0 (fun r τ => r = vi (satM n) ∧ τ = []) := by
 refine ACalls.body Try.func100 rfl 6 [(0, vi n)] ?_
 refine AWp.hz [.run 1] 6 [(0, vi n)] [] 0 ?_
 refine AWp.hz [.run 1, .mnx true n (-1099511627776), .mnx false (if -1099511627776 > n then -1099511627776 else n) 1099511627776, .run 1] 6 [(2, vi (if 1099511627776 < (if -1099511627776 > n then -1099511627776 else n) then 1099511627776 else (if -1099511627776 > n then -1099511627776 else n)))] [] 0 ?_
 refine AWp.ret ?_
 exact leafR (r := vi (if 1099511627776 < (if -1099511627776 > n then -1099511627776 else n) then 1099511627776 else (if -1099511627776 > n then -1099511627776 else n))) (by unfold satM; try kernel_rfl)
end Go.Proofs.Ytnnlaccdendkpaa
