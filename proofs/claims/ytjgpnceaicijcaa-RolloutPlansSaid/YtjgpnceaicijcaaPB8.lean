/- The statements: what they compute. -/
import Derived.Test.YtjgpnceaicijcaaPB7
import Derived.Test.YtjgpnceaicijcaaPQd
namespace Go.Proofs.Ytjgpnceaicijcaa
open Go Go.Av Go.Hh Go.Proofs
set_option maxRecDepth 100000
set_option maxHeartbeats 4000000
theorem awake_true : awakeM rstdM = true := by kernel_rfl
theorem awake_ok : ACalls Try.prog G_ 9 [] [] 0 (fun r τ => r = vb true ∧ τ = []) := awake_true ▸ awakeM_ok rstdM rstdM_ok
theorem home_dev {h : Home} (hh : (!(homeM h)) = false) : h.devices.length ≤ 1000000 := by
  have hh : homeM h = true := by simpa using hh
  unfold homeM at hh
  simp only [cond_eq_ite] at hh
  split at hh
  · cases hh
  · rename_i h1
    simp only [Bool.or_eq_true, decide_eq_true_eq, not_or] at h1
    omega
theorem few_good {l : List Update} (hh : (!(fewM l)) = false) : Good l := by
  have hh : fewM l = true := by simpa using hh
  unfold fewM at hh
  simp only [cond_eq_ite] at hh
  split at hh
  · cases hh
  · rename_i h1
    simp only [decide_eq_true_eq] at h1
    refine ⟨by omega, fun u hu => ?_⟩
    obtain ⟨j, hj, rfl⟩ := List.mem_iff_getElem.1 hu
    cases hs : fewM_L1 l with
    | none =>
      have := scanN_all.1 hs j (Nat.zero_le _) (by omega)
      unfold fewM_B1 at this
      rw [List.getElem?_eq_getElem hj] at this
      simp only [cond_eq_ite] at this
      split at this
      · cases this
      · rename_i h2
        simp only [decide_eq_true_eq] at h2
        omega
    | some r =>
      rw [hs] at hh
      simp only [Option.getD_some] at hh
      subst hh
      obtain ⟨k, _, _, hk, _⟩ := scanN_get hs
      unfold fewM_B1 at hk
      simp only [cond_eq_ite] at hk
      repeat' split at hk
      all_goals cases hk
def lPlansM (h : Home) (f : Firmware) (v : List Pair) : Bool :=
  (((!(homeM h) || decide (((f.sums.length : Nat) : Int) > 80)) || decide (((v.length : Nat) : Int) > 40)) || (sameM ((newM h f v).1) ((rnewM h f v).1) && (((newM h f v).2) == ((rnewM h f v).2))))
theorem lPlansM_ok (h : Home) (f : Firmware) (v : List Pair) :
 ACalls Try.prog G_ 3 [.agg (avs (Home.cells h)), .agg (avs (Firmware.cells f)), .rv (.sl 2 (v.map Pair.cells))] [] 0 (fun r τ => r = vb (lPlansM h f v) ∧ τ = []) := by
 refine ACalls.body Try.func3 rfl 51 [(0, .agg (avs (Home.cells h))), (1, .agg (avs (Firmware.cells f))), (2, .rv (.sl 2 (v.map Pair.cells)))] ?_
 refine AWp.hz [.run 3] 51 [(2, .rv (.sl 2 (v.map Pair.cells))), (3, .ptr 0 0), (4, .ptr 1 0)] [(1, .box 28 (avs (Firmware.cells f))), (0, .box 25 (avs (Home.cells h)))] 2 ?_
 refine AWp.seq ?_
 refine AWp.join (Z 51 [(2, .rv (.sl 2 (v.map Pair.cells))), (3, .ptr 0 0), (4, .ptr 1 0), (24, vb ((!(homeM h) || decide (((f.sums.length : Nat) : Int) > 80)) || decide (((v.length : Nat) : Int) > 40)))] [(1, .box 28 (avs (Firmware.cells f))), (0, .box 25 (avs (Home.cells h)))] 2) ?_ ?_
 ·
  refine AWp.region ?_
  refine AOps.hg [.run 1, .call 8 [.agg (avs (Home.cells h))] (vb (homeM h)) [] 0 (homeM_ok h), .run 2] (!(homeM h)) 51 (fun b_ => [(2, .rv (.sl 2 (v.map Pair.cells))), (3, .ptr 0 0), (4, .ptr 1 0), (14, vb b_)]) [(1, .box 28 (avs (Firmware.cells f))), (0, .box 25 (avs (Home.cells h)))] 2 (fun hg1 => ?_) (fun hg1 => ?_)
  ·
   refine AOps.he [.run 10] 51 [(2, .rv (.sl 2 (v.map Pair.cells))), (3, .ptr 0 0), (4, .ptr 1 0), (24, vb true)] [(1, .box 28 (avs (Firmware.cells f))), (0, .box 25 (avs (Home.cells h)))] 2 ?_
   exact leZ (by rw [hg1]; first | done | kernel_rfl)
  ·
   refine AOps.hzl [.run 2, .len intC f.sums 1, .run 3] 51 [(2, .rv (.sl 2 (v.map Pair.cells))), (3, .ptr 0 0), (4, .ptr 1 0), (20, vb (decide (((f.sums.length : Nat) : Int) > 80)))] [(1, .box 28 (avs (Firmware.cells f))), (0, .box 25 (avs (Home.cells h)))] 2 (fun hl => ?_)
   obtain ⟨hn2, -⟩ := hl
   refine AOps.hg [] (decide (((f.sums.length : Nat) : Int) > 80)) 51 (fun b_ => [(2, .rv (.sl 2 (v.map Pair.cells))), (3, .ptr 0 0), (4, .ptr 1 0), (20, vb b_)]) [(1, .box 28 (avs (Firmware.cells f))), (0, .box 25 (avs (Home.cells h)))] 2 (fun hg3 => ?_) (fun hg3 => ?_)
   ·
    have hg3' := of_decide_eq_true hg3
    refine AOps.he [.run 4] 51 [(2, .rv (.sl 2 (v.map Pair.cells))), (3, .ptr 0 0), (4, .ptr 1 0), (24, vb true)] [(1, .box 28 (avs (Firmware.cells f))), (0, .box 25 (avs (Home.cells h)))] 2 ?_
    exact leZ (by rw [hg1, hg3]; first | done | kernel_rfl)
   ·
    have hg3' := of_decide_eq_false hg3
    refine AOps.hel [.run 1, .len Pair.cells v 2, .run 2] 51 [(2, .rv (.sl 2 (v.map Pair.cells))), (3, .ptr 0 0), (4, .ptr 1 0), (24, vb (decide (((v.length : Nat) : Int) > 40)))] [(1, .box 28 (avs (Firmware.cells f))), (0, .box 25 (avs (Home.cells h)))] 2 (fun hl => ?_)
    obtain ⟨hn4, -⟩ := hl
    exact leZ (by rw [hg1, hg3]; first | done | kernel_rfl)
 ·
  refine AWp.cnd (((!(homeM h) || decide (((f.sums.length : Nat) : Int) > 80)) || decide (((v.length : Nat) : Int) > 40))) (fun h5 => ?_) (fun h5 => ?_)
  ·
   refine AWp.hz [.call 9 [] (vb true) [] 0 (awake_ok), .run 1] 51 [(6, vb true)] [] 2 ?_
   refine AWp.ret ?_
   exact leafR (r := vb true) (by unfold lPlansM; (try rw [h5]); first | done | kernel_rfl)
  ·
   have h5l := or_fl h5
   have h5ll := or_fl h5l
   have h5lr := or_fr h5l
   have h5lr' := of_decide_eq_false h5lr
   have h5r := or_fr h5
   have h5r' := of_decide_eq_false h5r
   refine AWp.skip ?_
   refine AWp.hz [.run 3, .call 10 [.agg (avs (Home.cells h)), .agg (avs (Firmware.cells f)), .rv (.sl 2 (v.map Pair.cells))] (.tuple [.rv (.sl 6 (((newM h f v).1).map Update.cells)), vi ((newM h f v).2)]) [] 0 (newM_ok h f v (by first | (with_reducible first | assumption | exact Good.len (by assumption) | exact Good.fit (by assumption) | exact few_good (by assumption) | exact home_dev (by assumption) | exact Good.len (few_good (by assumption)) | exact Good.fit (few_good (by assumption))) | omega) (by first | (with_reducible first | assumption | exact Good.len (by assumption) | exact Good.fit (by assumption) | exact few_good (by assumption) | exact home_dev (by assumption) | exact Good.len (few_good (by assumption)) | exact Good.fit (few_good (by assumption))) | omega)), .run 5] 51 [(2, .rv (.sl 2 (v.map Pair.cells))), (3, .ptr 0 0), (4, .ptr 1 0), (7, .rv (.sl 6 (((newM h f v).1).map Update.cells))), (8, vi ((newM h f v).2))] [(1, .box 28 (avs (Firmware.cells f))), (0, .box 25 (avs (Home.cells h)))] 2 ?_
   refine AWp.hz [.run 3, .call 11 [.agg (avs (Home.cells h)), .agg (avs (Firmware.cells f)), .rv (.sl 2 (v.map Pair.cells))] (.tuple [.rv (.sl 6 (((rnewM h f v).1).map Update.cells)), vi ((rnewM h f v).2)]) [] 0 (rnewM_ok h f v (by first | (with_reducible first | assumption | exact Good.len (by assumption) | exact Good.fit (by assumption) | exact few_good (by assumption) | exact home_dev (by assumption) | exact Good.len (few_good (by assumption)) | exact Good.fit (few_good (by assumption))) | omega) (by first | (with_reducible first | assumption | exact Good.len (by assumption) | exact Good.fit (by assumption) | exact few_good (by assumption) | exact home_dev (by assumption) | exact Good.len (few_good (by assumption)) | exact Good.fit (few_good (by assumption))) | omega)), .run 5] 51 [(7, .rv (.sl 6 (((newM h f v).1).map Update.cells))), (8, vi ((newM h f v).2)), (9, .rv (.sl 6 (((rnewM h f v).1).map Update.cells))), (10, vi ((rnewM h f v).2))] [] 2 ?_
   refine AWp.join (Z 51 [(6, vb (sameM ((newM h f v).1) ((rnewM h f v).1) && (((newM h f v).2) == ((rnewM h f v).2))))] [] 2) ?_ ?_
   ·
    refine AWp.region ?_
    refine AOps.hg [.run 2, .call 12 [.rv (.sl 6 (((newM h f v).1).map Update.cells)), .rv (.sl 6 (((rnewM h f v).1).map Update.cells))] (vb (sameM ((newM h f v).1) ((rnewM h f v).1))) [] 0 (sameM_ok ((newM h f v).1) ((rnewM h f v).1)), .run 1] (sameM ((newM h f v).1) ((rnewM h f v).1)) 51 (fun b_ => [(8, vi ((newM h f v).2)), (10, vi ((rnewM h f v).2)), (43, vb b_)]) [] 2 (fun hg6 => ?_) (fun hg6 => ?_)
    ·
     refine AOps.hg [.run 5] ((((newM h f v).2) == ((rnewM h f v).2))) 51 (fun b_ => [(48, vb b_)]) [] 2 (fun hg7 => ?_) (fun hg7 => ?_)
     ·
      refine AOps.he [.call 9 [] (vb true) [] 0 (awake_ok), .run 2] 51 [(6, vb true)] [] 2 ?_
      exact leZ (by rw [hg6, hg7]; first | done | kernel_rfl)
     ·
      refine AOps.he [.run 3] 51 [(6, vb false)] [] 2 ?_
      exact leZ (by rw [hg6, hg7]; first | done | kernel_rfl)
    ·
     refine AOps.he [.run 8] 51 [(6, vb false)] [] 2 ?_
     exact leZ (by rw [hg6]; first | done | kernel_rfl)
   ·
    refine AWp.ret ?_
    exact leafR (r := vb (sameM ((newM h f v).1) ((rnewM h f v).1) && (((newM h f v).2) == ((rnewM h f v).2)))) (by unfold lPlansM; (try rw [h5]); first | done | kernel_rfl)
end Go.Proofs.Ytjgpnceaicijcaa
