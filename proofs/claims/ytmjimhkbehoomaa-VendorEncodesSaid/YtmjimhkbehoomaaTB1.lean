/- Small functions. -/
import Derived.Test.YtmjimhkbehoomaaTA7
import Derived.Test.YtmjimhkbehoomaaTNj
namespace Go.Proofs.Ytmjimhkbehoomaa
open Go Go.Av Go.Hh Go.Proofs
set_option maxRecDepth 100000
set_option maxHeartbeats 4000000
def numbersM (d : Dev) : Bool :=
  (bif ((decide (d.id < 1) || (decide (d.id > 250) || decide (d.vendor < 0))) || decide (d.vendor > 255)) then false else (bif d.sleepy then (decide (d.poll ≥ 4) && decide (d.poll ≤ 3600)) else (d.poll == 0)))
theorem numbersM_ok (d : Dev) :
 ACalls Try.prog G_ 43 [.agg (avs (Dev.cells d))] [] 0 (fun r τ => r = vb (numbersM d) ∧ τ = []) := by
 refine ACalls.body Try.func43 rfl 34 [(0, .agg (avs (Dev.cells d)))] ?_
 refine AWp.hz [.run 2] 34 [(1, .ptr 0 0)] [(0, .box 61 (avs (Dev.cells d)))] 1 ?_
 refine AWp.seq ?_
 refine AWp.join (Z 34 [(1, .ptr 0 0), (20, vb ((decide (d.id < 1) || (decide (d.id > 250) || decide (d.vendor < 0))) || decide (d.vendor > 255)))] [(0, .box 61 (avs (Dev.cells d)))] 1) ?_ ?_
 ·
  refine AWp.region ?_
  refine AOps.hg [.run 4] (decide (d.id < 1)) 34 (fun b_ => [(1, .ptr 0 0), (6, vb b_)]) [(0, .box 61 (avs (Dev.cells d)))] 1 (fun hg1 => ?_) (fun hg1 => ?_)
  ·
   have hg1' := of_decide_eq_true hg1
   refine AOps.he [.run 14] 34 [(1, .ptr 0 0), (20, vb true)] [(0, .box 61 (avs (Dev.cells d)))] 1 ?_
   exact leZ (by rw [hg1]; first | done | kernel_rfl)
  ·
   have hg1' := of_decide_eq_false hg1
   refine AOps.hg [.run 5] (decide (d.id > 250)) 34 (fun b_ => [(1, .ptr 0 0), (11, vb b_)]) [(0, .box 61 (avs (Dev.cells d)))] 1 (fun hg2 => ?_) (fun hg2 => ?_)
   ·
    have hg2' := of_decide_eq_true hg2
    refine AOps.he [.run 9] 34 [(1, .ptr 0 0), (20, vb true)] [(0, .box 61 (avs (Dev.cells d)))] 1 ?_
    exact leZ (by rw [hg1, hg2]; first | done | kernel_rfl)
   ·
    have hg2' := of_decide_eq_false hg2
    refine AOps.hg [.run 5] (decide (d.vendor < 0)) 34 (fun b_ => [(1, .ptr 0 0), (16, vb b_)]) [(0, .box 61 (avs (Dev.cells d)))] 1 (fun hg3 => ?_) (fun hg3 => ?_)
    ·
     have hg3' := of_decide_eq_true hg3
     refine AOps.he [.run 4] 34 [(1, .ptr 0 0), (20, vb true)] [(0, .box 61 (avs (Dev.cells d)))] 1 ?_
     exact leZ (by rw [hg1, hg2, hg3]; first | done | kernel_rfl)
    ·
     have hg3' := of_decide_eq_false hg3
     refine AOps.he [.run 4] 34 [(1, .ptr 0 0), (20, vb (decide (d.vendor > 255)))] [(0, .box 61 (avs (Dev.cells d)))] 1 ?_
     exact leZ (by rw [hg1, hg2, hg3]; first | done | kernel_rfl)
 ·
  refine AWp.cnd (((decide (d.id < 1) || (decide (d.id > 250) || decide (d.vendor < 0))) || decide (d.vendor > 255))) (fun h4 => ?_) (fun h4 => ?_)
  ·
   refine AWp.hz [.run 1] 34 [(2, vb false)] [] 1 ?_
   refine AWp.ret ?_
   exact leafR (r := vb false) (by unfold numbersM; (try rw [h4]); first | done | kernel_rfl)
  ·
   have h4l := or_fl h4
   have h4ll := or_fl h4l
   have h4ll' := of_decide_eq_false h4ll
   have h4lr := or_fr h4l
   have h4lrl := or_fl h4lr
   have h4lrl' := of_decide_eq_false h4lrl
   have h4lrr := or_fr h4lr
   have h4lrr' := of_decide_eq_false h4lrr
   have h4r := or_fr h4
   have h4r' := of_decide_eq_false h4r
   refine AWp.skip ?_
   refine AWp.seq ?_
   refine AWp.hz [.run 2] 34 [(1, .ptr 0 0), (22, vb d.sleepy)] [(0, .box 61 (avs (Dev.cells d)))] 1 ?_
   refine AWp.cnd (d.sleepy) (fun h5 => ?_) (fun h5 => ?_)
   ·
    refine AWp.join (Z 34 [(2, vb (decide (d.poll ≥ 4) && decide (d.poll ≤ 3600)))] [] 1) ?_ ?_
    ·
     refine AWp.region ?_
     refine AOps.hg [.run 4] (decide (d.poll ≥ 4)) 34 (fun b_ => [(1, .ptr 0 0), (26, vb b_)]) [(0, .box 61 (avs (Dev.cells d)))] 1 (fun hg6 => ?_) (fun hg6 => ?_)
     ·
      have hg6' := of_decide_eq_true hg6
      refine AOps.he [.run 5] 34 [(2, vb (decide (d.poll ≤ 3600)))] [] 1 ?_
      exact leZ (by rw [hg6]; first | done | kernel_rfl)
     ·
      have hg6' := of_decide_eq_false hg6
      refine AOps.he [.run 5] 34 [(2, vb false)] [] 1 ?_
      exact leZ (by rw [hg6]; first | done | kernel_rfl)
    ·
     refine AWp.ret ?_
     exact leafR (r := vb (decide (d.poll ≥ 4) && decide (d.poll ≤ 3600))) (by unfold numbersM; (try rw [h4]); (try rw [h5]); first | done | kernel_rfl)
   ·
    refine AWp.skip ?_
    refine AWp.hz [.run 4] 34 [(2, vb (d.poll == 0))] [] 1 ?_
    refine AWp.ret ?_
    exact leafR (r := vb (d.poll == 0)) (by unfold numbersM; (try rw [h4]); (try rw [h5]); first | done | kernel_rfl)
def rsatM (n : Int) : Int :=
  (bif decide (n > 1099511627776) then 1099511627776 else (bif decide (n < -1099511627776) then -1099511627776 else n))
theorem rsatM_ok (n : Int) :
 ACalls Try.prog G_ 77 [vi n] [] 0 (fun r τ => r = vi (rsatM n) ∧ τ = []) := by
 refine ACalls.body Try.func77 rfl 8 [(0, vi n)] ?_
 refine AWp.hz [.run 1] 8 [(0, vi n)] [] 0 ?_
 refine AWp.seq ?_
 refine AWp.hz [.run 2] 8 [(0, vi n), (4, vb (decide (n > 1099511627776)))] [] 0 ?_
 refine AWp.cnd (decide (n > 1099511627776)) (fun h1 => ?_) (fun h1 => ?_)
 ·
  have h1' := of_decide_eq_true h1
  refine AWp.hz [.run 1] 8 [(2, vi 1099511627776)] [] 0 ?_
  refine AWp.ret ?_
  exact leafR (r := vi 1099511627776) (by unfold rsatM; (try rw [h1]); first | done | kernel_rfl)
 ·
  have h1' := of_decide_eq_false h1
  refine AWp.skip ?_
  refine AWp.seq ?_
  refine AWp.hz [.run 2] 8 [(0, vi n), (6, vb (decide (n < -1099511627776)))] [] 0 ?_
  refine AWp.cnd (decide (n < -1099511627776)) (fun h2 => ?_) (fun h2 => ?_)
  ·
   have h2' := of_decide_eq_true h2
   refine AWp.hz [.run 1] 8 [(2, vi (-1099511627776))] [] 0 ?_
   refine AWp.ret ?_
   exact leafR (r := vi (-1099511627776)) (by unfold rsatM; (try rw [h1]); (try rw [h2]); first | done | kernel_rfl)
  ·
   have h2' := of_decide_eq_false h2
   refine AWp.skip ?_
   refine AWp.hz [.run 2] 8 [(2, vi n)] [] 0 ?_
   refine AWp.ret ?_
   exact leafR (r := vi n) (by unfold rsatM; (try rw [h1]); (try rw [h2]); first | done | kernel_rfl)
def floorM (a b : Int) : Int :=
  (bif (satM b == 0) then 0 else (bif (((satM a).tmod (satM b) != 0) && !((decide (satM a < 0)) == (decide (satM b < 0)))) then IntKind.i64.wrap (IntKind.i64.wrap ((satM a).tdiv (satM b)) - 1) else IntKind.i64.wrap ((satM a).tdiv (satM b))))
theorem floorM_ok (a b : Int) :
 ACalls Try.prog G_ 54 [vi a, vi b] [] 0 (fun r τ => r = vi (floorM a b) ∧ τ = []) := by
 refine ACalls.body Try.func54 rfl 31 [(0, vi a), (1, vi b)] ?_
 refine AWp.hz [.run 1] 31 [(0, vi a), (1, vi b)] [] 0 ?_
 refine AWp.hz [.run 1, .call 74 [vi a] (vi (satM a)) [] 0 (satM_ok a), .run 1, .call 74 [vi b] (vi (satM b)) [] 0 (satM_ok b), .run 2] 31 [(5, vi (satM a)), (6, vi (satM b))] [] 0 ?_
 refine AWp.seq ?_
 refine AWp.hz [.run 2] 31 [(5, vi (satM a)), (6, vi (satM b)), (13, vb (satM b == 0))] [] 0 ?_
 refine AWp.cnd ((satM b == 0)) (fun h1 => ?_) (fun h1 => ?_)
 ·
  refine AWp.hz [.run 1] 31 [(4, vi 0)] [] 0 ?_
  refine AWp.ret ?_
  exact leafR (r := vi 0) (by unfold floorM; (try rw [h1]); first | done | kernel_rfl)
 ·
  refine AWp.skip ?_
  refine AWp.rg ?_
  refine AOps.hz [.run 2] 31 [(5, vi (satM a)), (6, vi (satM b)), (14, vi (satM a)), (15, vi (satM b))] [] 0 ?_
  have hd2 : (satM b) ≠ 0 := by first | omega | (simp at *; omega)
  refine AOps.quo .i64 (satM a) (satM b) (.tmp 14) (.tmp 15) hd2 ?_
  refine AOps.he [.run 1] 31 [(5, vi (satM a)), (6, vi (satM b)), (7, vi (IntKind.i64.wrap ((satM a).tdiv (satM b))))] [] 0 ?_
  refine AWp.join (Z 31 [(7, vi (bif (((satM a).tmod (satM b) != 0) && !((decide (satM a < 0)) == (decide (satM b < 0)))) then IntKind.i64.wrap (IntKind.i64.wrap ((satM a).tdiv (satM b)) - 1) else IntKind.i64.wrap ((satM a).tdiv (satM b))))] [] 0) ?_ ?_
  ·
   refine AWp.join (Z 31 [(7, vi (IntKind.i64.wrap ((satM a).tdiv (satM b)))), (27, vb (((satM a).tmod (satM b) != 0) && !((decide (satM a < 0)) == (decide (satM b < 0)))))] [] 0) ?_ ?_
   ·
    refine AWp.region ?_
    refine AOps.hz [.run 2] 31 [(5, vi (satM a)), (6, vi (satM b)), (7, vi (IntKind.i64.wrap ((satM a).tdiv (satM b)))), (17, vi (satM a)), (18, vi (satM b))] [] 0 ?_
    have hd3 : (satM b) ≠ 0 := by first | omega | (simp at *; omega)
    refine AOps.rem .i64 (satM a) (satM b) (.tmp 17) (.tmp 18) hd3 ?_
    refine AOps.hg [.run 2] (((satM a).tmod (satM b) != 0)) 31 (fun b_ => [(5, vi (satM a)), (6, vi (satM b)), (7, vi (IntKind.i64.wrap ((satM a).tdiv (satM b)))), (21, vb b_)]) [] 0 (fun hg4 => ?_) (fun hg4 => ?_)
    ·
     refine AOps.he [.run 6] 31 [(7, vi (IntKind.i64.wrap ((satM a).tdiv (satM b)))), (27, vb (!((decide (satM a < 0)) == (decide (satM b < 0)))))] [] 0 ?_
     exact leZ (by rw [hg4]; first | done | kernel_rfl)
    ·
     refine AOps.he [.run 6] 31 [(7, vi (IntKind.i64.wrap ((satM a).tdiv (satM b)))), (27, vb false)] [] 0 ?_
     exact leZ (by rw [hg4]; first | done | kernel_rfl)
   ·
    refine AWp.cnd ((((satM a).tmod (satM b) != 0) && !((decide (satM a < 0)) == (decide (satM b < 0))))) (fun h5 => ?_) (fun h5 => ?_)
    ·
     have h5l := and_tl h5
     have h5r := and_tr h5
     refine AWp.he [.run 3] 31 [(7, vi (IntKind.i64.wrap (IntKind.i64.wrap ((satM a).tdiv (satM b)) - 1)))] [] 0 ?_
     exact leZ (by rw [h5]; first | done | kernel_rfl)
    ·
     refine AWp.skip ?_
     exact leZ (by rw [h5]; first | done | kernel_rfl)
  ·
   refine AWp.hz [.run 2] 31 [(4, vi (bif (((satM a).tmod (satM b) != 0) && !((decide (satM a < 0)) == (decide (satM b < 0)))) then IntKind.i64.wrap (IntKind.i64.wrap ((satM a).tdiv (satM b)) - 1) else IntKind.i64.wrap ((satM a).tdiv (satM b))))] [] 0 ?_
   refine AWp.ret ?_
   exact leafR (r := vi (bif (((satM a).tmod (satM b) != 0) && !((decide (satM a < 0)) == (decide (satM b < 0)))) then IntKind.i64.wrap (IntKind.i64.wrap ((satM a).tdiv (satM b)) - 1) else IntKind.i64.wrap ((satM a).tdiv (satM b)))) (by unfold floorM; (try rw [h1]); first | done | kernel_rfl)
def rfloorM (a b : Int) : Int :=
  (bif (rsatM b == 0) then 0 else (bif (((rsatM a).tmod (rsatM b) != 0) && !((decide (rsatM a < 0)) == (decide (rsatM b < 0)))) then IntKind.i64.wrap (IntKind.i64.wrap ((rsatM a).tdiv (rsatM b)) - 1) else IntKind.i64.wrap ((rsatM a).tdiv (rsatM b))))
theorem rfloorM_ok (a b : Int) :
 ACalls Try.prog G_ 58 [vi a, vi b] [] 0 (fun r τ => r = vi (rfloorM a b) ∧ τ = []) := by
 refine ACalls.body Try.func58 rfl 29 [(0, vi a), (1, vi b)] ?_
 refine AWp.hz [.run 1] 29 [(0, vi a), (1, vi b)] [] 0 ?_
 refine AWp.hz [.run 1, .call 77 [vi a] (vi (rsatM a)) [] 0 (rsatM_ok a), .run 1, .call 77 [vi b] (vi (rsatM b)) [] 0 (rsatM_ok b), .run 2] 29 [(0, vi (rsatM a)), (1, vi (rsatM b))] [] 0 ?_
 refine AWp.seq ?_
 refine AWp.hz [.run 2] 29 [(0, vi (rsatM a)), (1, vi (rsatM b)), (11, vb (rsatM b == 0))] [] 0 ?_
 refine AWp.cnd ((rsatM b == 0)) (fun h1 => ?_) (fun h1 => ?_)
 ·
  refine AWp.hz [.run 1] 29 [(4, vi 0)] [] 0 ?_
  refine AWp.ret ?_
  exact leafR (r := vi 0) (by unfold rfloorM; (try rw [h1]); first | done | kernel_rfl)
 ·
  refine AWp.skip ?_
  refine AWp.rg ?_
  refine AOps.hz [.run 2] 29 [(0, vi (rsatM a)), (1, vi (rsatM b)), (12, vi (rsatM a)), (13, vi (rsatM b))] [] 0 ?_
  have hd2 : (rsatM b) ≠ 0 := by first | omega | (simp at *; omega)
  refine AOps.quo .i64 (rsatM a) (rsatM b) (.tmp 12) (.tmp 13) hd2 ?_
  refine AOps.he [.run 1] 29 [(0, vi (rsatM a)), (1, vi (rsatM b)), (5, vi (IntKind.i64.wrap ((rsatM a).tdiv (rsatM b))))] [] 0 ?_
  refine AWp.join (Z 29 [(5, vi (bif (((rsatM a).tmod (rsatM b) != 0) && !((decide (rsatM a < 0)) == (decide (rsatM b < 0)))) then IntKind.i64.wrap (IntKind.i64.wrap ((rsatM a).tdiv (rsatM b)) - 1) else IntKind.i64.wrap ((rsatM a).tdiv (rsatM b))))] [] 0) ?_ ?_
  ·
   refine AWp.join (Z 29 [(5, vi (IntKind.i64.wrap ((rsatM a).tdiv (rsatM b)))), (25, vb (((rsatM a).tmod (rsatM b) != 0) && !((decide (rsatM a < 0)) == (decide (rsatM b < 0)))))] [] 0) ?_ ?_
   ·
    refine AWp.region ?_
    refine AOps.hz [.run 2] 29 [(0, vi (rsatM a)), (1, vi (rsatM b)), (5, vi (IntKind.i64.wrap ((rsatM a).tdiv (rsatM b)))), (15, vi (rsatM a)), (16, vi (rsatM b))] [] 0 ?_
    have hd3 : (rsatM b) ≠ 0 := by first | omega | (simp at *; omega)
    refine AOps.rem .i64 (rsatM a) (rsatM b) (.tmp 15) (.tmp 16) hd3 ?_
    refine AOps.hg [.run 2] (((rsatM a).tmod (rsatM b) != 0)) 29 (fun b_ => [(0, vi (rsatM a)), (1, vi (rsatM b)), (5, vi (IntKind.i64.wrap ((rsatM a).tdiv (rsatM b)))), (19, vb b_)]) [] 0 (fun hg4 => ?_) (fun hg4 => ?_)
    ·
     refine AOps.he [.run 6] 29 [(5, vi (IntKind.i64.wrap ((rsatM a).tdiv (rsatM b)))), (25, vb (!((decide (rsatM a < 0)) == (decide (rsatM b < 0)))))] [] 0 ?_
     exact leZ (by rw [hg4]; first | done | kernel_rfl)
    ·
     refine AOps.he [.run 6] 29 [(5, vi (IntKind.i64.wrap ((rsatM a).tdiv (rsatM b)))), (25, vb false)] [] 0 ?_
     exact leZ (by rw [hg4]; first | done | kernel_rfl)
   ·
    refine AWp.cnd ((((rsatM a).tmod (rsatM b) != 0) && !((decide (rsatM a < 0)) == (decide (rsatM b < 0))))) (fun h5 => ?_) (fun h5 => ?_)
    ·
     have h5l := and_tl h5
     have h5r := and_tr h5
     refine AWp.he [.run 3] 29 [(5, vi (IntKind.i64.wrap (IntKind.i64.wrap ((rsatM a).tdiv (rsatM b)) - 1)))] [] 0 ?_
     exact leZ (by rw [h5]; first | done | kernel_rfl)
    ·
     refine AWp.skip ?_
     exact leZ (by rw [h5]; first | done | kernel_rfl)
  ·
   refine AWp.hz [.run 2] 29 [(4, vi (bif (((rsatM a).tmod (rsatM b) != 0) && !((decide (rsatM a < 0)) == (decide (rsatM b < 0)))) then IntKind.i64.wrap (IntKind.i64.wrap ((rsatM a).tdiv (rsatM b)) - 1) else IntKind.i64.wrap ((rsatM a).tdiv (rsatM b))))] [] 0 ?_
   refine AWp.ret ?_
   exact leafR (r := vi (bif (((rsatM a).tmod (rsatM b) != 0) && !((decide (rsatM a < 0)) == (decide (rsatM b < 0)))) then IntKind.i64.wrap (IntKind.i64.wrap ((rsatM a).tdiv (rsatM b)) - 1) else IntKind.i64.wrap ((rsatM a).tdiv (rsatM b)))) (by unfold rfloorM; (try rw [h1]); first | done | kernel_rfl)
def ceilM (a b : Int) : Int :=
  (bif decide (a.tmod b > 0) then IntKind.i64.wrap (IntKind.i64.wrap (a.tdiv b) + 1) else IntKind.i64.wrap (a.tdiv b))
theorem ceilM_ok (a b : Int) (hb : 0 < b) :
 ACalls Try.prog G_ 61 [vi a, vi b] [] 0 (fun r τ => r = vi (ceilM a b) ∧ τ = []) := by
 refine ACalls.body Try.func61 rfl 16 [(0, vi a), (1, vi b)] ?_
 refine AWp.hz [.run 1] 16 [(0, vi a), (1, vi b)] [] 0 ?_
 refine AWp.rg ?_
 refine AOps.hz [.run 2] 16 [(0, vi a), (1, vi b), (6, vi a), (7, vi b)] [] 0 ?_
 have hd1 : b ≠ 0 := by first | omega | (simp at *; omega)
 refine AOps.quo .i64 a b (.tmp 6) (.tmp 7) hd1 ?_
 refine AOps.he [.run 1] 16 [(0, vi a), (1, vi b), (5, vi (IntKind.i64.wrap (a.tdiv b)))] [] 0 ?_
 refine AWp.join (Z 16 [(5, vi (bif decide (a.tmod b > 0) then IntKind.i64.wrap (IntKind.i64.wrap (a.tdiv b) + 1) else IntKind.i64.wrap (a.tdiv b)))] [] 0) ?_ ?_
 ·
  refine AWp.rg ?_
  refine AOps.hz [.run 2] 16 [(5, vi (IntKind.i64.wrap (a.tdiv b))), (9, vi a), (10, vi b)] [] 0 ?_
  have hd2 : b ≠ 0 := by first | omega | (simp at *; omega)
  refine AOps.rem .i64 a b (.tmp 9) (.tmp 10) hd2 ?_
  refine AOps.he [.run 1] 16 [(5, vi (IntKind.i64.wrap (a.tdiv b))), (12, vb (decide (a.tmod b > 0)))] [] 0 ?_
  refine AWp.cnd (decide (a.tmod b > 0)) (fun h3 => ?_) (fun h3 => ?_)
  ·
   have h3' := of_decide_eq_true h3
   refine AWp.he [.run 3] 16 [(5, vi (IntKind.i64.wrap (IntKind.i64.wrap (a.tdiv b) + 1)))] [] 0 ?_
   exact leZ (by rw [h3]; first | done | kernel_rfl)
  ·
   have h3' := of_decide_eq_false h3
   refine AWp.skip ?_
   exact leZ (by rw [h3]; first | done | kernel_rfl)
 ·
  refine AWp.hz [.run 2] 16 [(4, vi (bif decide (a.tmod b > 0) then IntKind.i64.wrap (IntKind.i64.wrap (a.tdiv b) + 1) else IntKind.i64.wrap (a.tdiv b)))] [] 0 ?_
  refine AWp.ret ?_
  exact leafR (r := vi (bif decide (a.tmod b > 0) then IntKind.i64.wrap (IntKind.i64.wrap (a.tdiv b) + 1) else IntKind.i64.wrap (a.tdiv b))) (by unfold ceilM; first | done | kernel_rfl)
end Go.Proofs.Ytmjimhkbehoomaa
