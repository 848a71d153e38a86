/- The statements: what they compute. -/
import Derived.Test.YtjgpnceaicijcaaPB7
import Derived.Test.YtjgpnceaicijcaaPQd
namespace Go.Proofs.Ytjgpnceaicijcaa
open Go Go.Av Go.Hh Go.Proofs
set_option maxRecDepth 100000
set_option maxHeartbeats 4000000
theorem awake_true : awakeM rstdM = true := by kernel_rfl
theorem awake_ok : ACalls Try.prog G_ 9 [] [] 0 (fun r τ => r = vb true ∧ τ = []) := awake_true ▸ awakeM_ok rstdM rstdM_ok
theorem home_dev {h : Home} (hh : (!(homeM h)) = false) : h.devices.length ≤ 1000000 := by
  have hh : homeM h = true := by simpa using hh
  unfold homeM at hh
  simp only [cond_eq_ite] at hh
  split at hh
  · cases hh
  · rename_i h1
    simp only [Bool.or_eq_true, decide_eq_true_eq, not_or] at h1
    omega
theorem few_good {l : List Update} (hh : (!(fewM l)) = false) : Good l := by
  have hh : fewM l = true := by simpa using hh
  unfold fewM at hh
  simp only [cond_eq_ite] at hh
  split at hh
  · cases hh
  · rename_i h1
    simp only [decide_eq_true_eq] at h1
    refine ⟨by omega, fun u hu => ?_⟩
    obtain ⟨j, hj, rfl⟩ := List.mem_iff_getElem.1 hu
    cases hs : fewM_L1 l with
    | none =>
      have := scanN_all.1 hs j (Nat.zero_le _) (by omega)
      unfold fewM_B1 at this
      rw [List.getElem?_eq_getElem hj] at this
      simp only [cond_eq_ite] at this
      split at this
      · cases this
      · rename_i h2
        simp only [decide_eq_true_eq] at h2
        omega
    | some r =>
      rw [hs] at hh
      simp only [Option.getD_some] at hh
      subst hh
      obtain ⟨k, _, _, hk, _⟩ := scanN_get hs
      unfold fewM_B1 at hk
      simp only [cond_eq_ite] at hk
      repeat' split at hk
      all_goals cases hk
def rstepM (l : List Update) (f : Firmware) (o : Op51) : List Update :=
  (bif (o.kind == 0) then rstartM l f o.now else (bif (o.kind == 1) then rhaveM l f o.dev o.have_ else (bif (o.kind == 2) then rinstallM l f o.dev o.now else (bif (o.kind == 3) then rconfirmM l o.dev o.ok o.now else (bif (o.kind == 4) then roverdueM l o.now else l)))))
theorem rstepM_ok (l : List Update) (f : Firmware) (o : Op51) (hg : Good l) (hs : f.sums.length ≤ 1000000) :
 ACalls Try.prog G_ 27 [.rv (.sl 6 (l.map Update.cells)), .agg (avs (Firmware.cells f)), .agg (avs (Op51.cells o))] [] 0 (fun r τ => r = .rv (.sl 6 ((rstepM l f o).map Update.cells)) ∧ τ = []) := by
 refine ACalls.body Try.func27 rfl 51 [(0, .rv (.sl 6 (l.map Update.cells))), (1, .agg (avs (Firmware.cells f))), (2, .agg (avs (Op51.cells o)))] ?_
 refine AWp.hz [.run 3] 51 [(0, .rv (.sl 6 (l.map Update.cells))), (4, .ptr 0 0), (5, .ptr 1 0)] [(1, .box 57 (avs (Op51.cells o))), (0, .box 28 (avs (Firmware.cells f)))] 2 ?_
 refine AWp.seq ?_
 refine AWp.hz [.run 2] 51 [(0, .rv (.sl 6 (l.map Update.cells))), (4, .ptr 0 0), (5, .ptr 1 0), (8, vi o.kind)] [(1, .box 57 (avs (Op51.cells o))), (0, .box 28 (avs (Firmware.cells f)))] 2 ?_
 refine AWp.block ?_
 refine AWp.hz [.run 2] 51 [(0, .rv (.sl 6 (l.map Update.cells))), (4, .ptr 0 0), (5, .ptr 1 0), (8, vi o.kind), (9, vb (o.kind == 0))] [(1, .box 57 (avs (Op51.cells o))), (0, .box 28 (avs (Firmware.cells f)))] 2 ?_
 refine AWp.cnd ((o.kind == 0)) (fun h1 => ?_) (fun h1 => ?_)
 ·
  refine AWp.hz [.run 4, .call 46 [.rv (.sl 6 (l.map Update.cells)), .agg (avs (Firmware.cells f)), vi o.now] (.rv (.sl 6 ((rstartM l f o.now).map Update.cells))) [] 0 (rstartM_ok l f o.now (by first | (with_reducible first | assumption | exact Good.len (by assumption) | exact Good.fit (by assumption) | exact few_good (by assumption) | exact home_dev (by assumption) | exact Good.len (few_good (by assumption)) | exact Good.fit (few_good (by assumption))) | omega) (by first | (with_reducible first | assumption | exact Good.len (by assumption) | exact Good.fit (by assumption) | exact few_good (by assumption) | exact home_dev (by assumption) | exact Good.len (few_good (by assumption)) | exact Good.fit (few_good (by assumption))) | omega)), .run 1] 51 [(6, .rv (.sl 6 ((rstartM l f o.now).map Update.cells)))] [] 2 ?_
  refine AWp.ret ?_
  exact leafR (r := .rv (.sl 6 ((rstartM l f o.now).map Update.cells))) (by show (.rv (.sl 6 ((rstartM l f o.now).map Update.cells)) : AV) = .rv (.sl 6 ((rstepM l f o).map Update.cells)); unfold rstepM; (try rw [h1]); first | done | kernel_rfl)
 ·
  refine AWp.hz [.run 2] 51 [(0, .rv (.sl 6 (l.map Update.cells))), (4, .ptr 0 0), (5, .ptr 1 0), (8, vi o.kind), (16, vb (o.kind == 1))] [(1, .box 57 (avs (Op51.cells o))), (0, .box 28 (avs (Firmware.cells f)))] 2 ?_
  refine AWp.cnd ((o.kind == 1)) (fun h2 => ?_) (fun h2 => ?_)
  ·
   refine AWp.hz [.run 6, .call 47 [.rv (.sl 6 (l.map Update.cells)), .agg (avs (Firmware.cells f)), vi o.dev, .rv (.sl 1 (o.have_.map boolC))] (.rv (.sl 6 ((rhaveM l f o.dev o.have_).map Update.cells))) [] 0 (rhaveM_ok l f o.dev o.have_ (by first | (with_reducible first | assumption | exact Good.len (by assumption) | exact Good.fit (by assumption) | exact few_good (by assumption) | exact home_dev (by assumption) | exact Good.len (few_good (by assumption)) | exact Good.fit (few_good (by assumption))) | omega) (by first | (with_reducible first | assumption | exact Good.len (by assumption) | exact Good.fit (by assumption) | exact few_good (by assumption) | exact home_dev (by assumption) | exact Good.len (few_good (by assumption)) | exact Good.fit (few_good (by assumption))) | omega) (by first | (with_reducible first | assumption | exact Good.len (by assumption) | exact Good.fit (by assumption) | exact few_good (by assumption) | exact home_dev (by assumption) | exact Good.len (few_good (by assumption)) | exact Good.fit (few_good (by assumption))) | omega)), .run 1] 51 [(6, .rv (.sl 6 ((rhaveM l f o.dev o.have_).map Update.cells)))] [] 2 ?_
   refine AWp.ret ?_
   exact leafR (r := .rv (.sl 6 ((rhaveM l f o.dev o.have_).map Update.cells))) (by show (.rv (.sl 6 ((rhaveM l f o.dev o.have_).map Update.cells)) : AV) = .rv (.sl 6 ((rstepM l f o).map Update.cells)); unfold rstepM; (try rw [h1]); (try rw [h2]); first | done | kernel_rfl)
  ·
   refine AWp.hz [.run 2] 51 [(0, .rv (.sl 6 (l.map Update.cells))), (4, .ptr 0 0), (5, .ptr 1 0), (8, vi o.kind), (25, vb (o.kind == 2))] [(1, .box 57 (avs (Op51.cells o))), (0, .box 28 (avs (Firmware.cells f)))] 2 ?_
   refine AWp.cnd ((o.kind == 2)) (fun h3 => ?_) (fun h3 => ?_)
   ·
    refine AWp.hz [.run 6, .call 48 [.rv (.sl 6 (l.map Update.cells)), .agg (avs (Firmware.cells f)), vi o.dev, vi o.now] (.rv (.sl 6 ((rinstallM l f o.dev o.now).map Update.cells))) [] 0 (rinstallM_ok l f o.dev o.now (by first | (with_reducible first | assumption | exact Good.len (by assumption) | exact Good.fit (by assumption) | exact few_good (by assumption) | exact home_dev (by assumption) | exact Good.len (few_good (by assumption)) | exact Good.fit (few_good (by assumption))) | omega) (by first | (with_reducible first | assumption | exact Good.len (by assumption) | exact Good.fit (by assumption) | exact few_good (by assumption) | exact home_dev (by assumption) | exact Good.len (few_good (by assumption)) | exact Good.fit (few_good (by assumption))) | omega)), .run 1] 51 [(6, .rv (.sl 6 ((rinstallM l f o.dev o.now).map Update.cells)))] [] 2 ?_
    refine AWp.ret ?_
    exact leafR (r := .rv (.sl 6 ((rinstallM l f o.dev o.now).map Update.cells))) (by show (.rv (.sl 6 ((rinstallM l f o.dev o.now).map Update.cells)) : AV) = .rv (.sl 6 ((rstepM l f o).map Update.cells)); unfold rstepM; (try rw [h1]); (try rw [h2]); (try rw [h3]); first | done | kernel_rfl)
   ·
    refine AWp.hz [.run 2] 51 [(0, .rv (.sl 6 (l.map Update.cells))), (5, .ptr 1 0), (8, vi o.kind), (34, vb (o.kind == 3))] [(1, .box 57 (avs (Op51.cells o)))] 2 ?_
    refine AWp.cnd ((o.kind == 3)) (fun h4 => ?_) (fun h4 => ?_)
    ·
     refine AWp.hz [.run 7, .call 49 [.rv (.sl 6 (l.map Update.cells)), vi o.dev, vb o.ok, vi o.now] (.rv (.sl 6 ((rconfirmM l o.dev o.ok o.now).map Update.cells))) [] 0 (rconfirmM_ok l o.dev o.ok o.now (by first | (with_reducible first | assumption | exact Good.len (by assumption) | exact Good.fit (by assumption) | exact few_good (by assumption) | exact home_dev (by assumption) | exact Good.len (few_good (by assumption)) | exact Good.fit (few_good (by assumption))) | omega) (by first | (with_reducible first | assumption | exact Good.len (by assumption) | exact Good.fit (by assumption) | exact few_good (by assumption) | exact home_dev (by assumption) | exact Good.len (few_good (by assumption)) | exact Good.fit (few_good (by assumption))) | omega)), .run 1] 51 [(6, .rv (.sl 6 ((rconfirmM l o.dev o.ok o.now).map Update.cells)))] [] 2 ?_
     refine AWp.ret ?_
     exact leafR (r := .rv (.sl 6 ((rconfirmM l o.dev o.ok o.now).map Update.cells))) (by show (.rv (.sl 6 ((rconfirmM l o.dev o.ok o.now).map Update.cells)) : AV) = .rv (.sl 6 ((rstepM l f o).map Update.cells)); unfold rstepM; (try rw [h1]); (try rw [h2]); (try rw [h3]); (try rw [h4]); first | done | kernel_rfl)
    ·
     refine AWp.hz [.run 2] 51 [(0, .rv (.sl 6 (l.map Update.cells))), (5, .ptr 1 0), (44, vb (o.kind == 4))] [(1, .box 57 (avs (Op51.cells o)))] 2 ?_
     refine AWp.cnd ((o.kind == 4)) (fun h5 => ?_) (fun h5 => ?_)
     ·
      refine AWp.hz [.run 3, .call 50 [.rv (.sl 6 (l.map Update.cells)), vi o.now] (.rv (.sl 6 ((roverdueM l o.now).map Update.cells))) [] 0 (roverdueM_ok l o.now (by first | (with_reducible first | assumption | exact Good.len (by assumption) | exact Good.fit (by assumption) | exact few_good (by assumption) | exact home_dev (by assumption) | exact Good.len (few_good (by assumption)) | exact Good.fit (few_good (by assumption))) | omega) (by first | (with_reducible first | assumption | exact Good.len (by assumption) | exact Good.fit (by assumption) | exact few_good (by assumption) | exact home_dev (by assumption) | exact Good.len (few_good (by assumption)) | exact Good.fit (few_good (by assumption))) | omega)), .run 1] 51 [(6, .rv (.sl 6 ((roverdueM l o.now).map Update.cells)))] [] 2 ?_
      refine AWp.ret ?_
      exact leafR (r := .rv (.sl 6 ((roverdueM l o.now).map Update.cells))) (by show (.rv (.sl 6 ((roverdueM l o.now).map Update.cells)) : AV) = .rv (.sl 6 ((rstepM l f o).map Update.cells)); unfold rstepM; (try rw [h1]); (try rw [h2]); (try rw [h3]); (try rw [h4]); (try rw [h5]); first | done | kernel_rfl)
     ·
      refine AWp.skip ?_
      refine AWp.hz [.run 2] 51 [(6, .rv (.sl 6 (l.map Update.cells)))] [] 2 ?_
      refine AWp.ret ?_
      exact leafR (r := .rv (.sl 6 (l.map Update.cells))) (by show (.rv (.sl 6 (l.map Update.cells)) : AV) = .rv (.sl 6 ((rstepM l f o).map Update.cells)); unfold rstepM; (try rw [h1]); (try rw [h2]); (try rw [h3]); (try rw [h4]); (try rw [h5]); first | done | kernel_rfl)
def lPlansM (h : Home) (f : Firmware) (v : List Pair) : Bool :=
  (((!(homeM h) || decide (((f.sums.length : Nat) : Int) > 80)) || decide (((v.length : Nat) : Int) > 40)) || (sameM ((newM h f v).1) ((rnewM h f v).1) && (((newM h f v).2) == ((rnewM h f v).2))))
theorem lPlansM_ok (h : Home) (f : Firmware) (v : List Pair) :
 ACalls Try.prog G_ 3 [.agg (avs (Home.cells h)), .agg (avs (Firmware.cells f)), .rv (.sl 2 (v.map Pair.cells))] [] 0 (fun r τ => r = vb (lPlansM h f v) ∧ τ = []) := by
 refine ACalls.body Try.func3 rfl 51 [(0, .agg (avs (Home.cells h))), (1, .agg (avs (Firmware.cells f))), (2, .rv (.sl 2 (v.map Pair.cells)))] ?_
 refine AWp.hz [.run 3] 51 [(2, .rv (.sl 2 (v.map Pair.cells))), (3, .ptr 0 0), (4, .ptr 1 0)] [(1, .box 28 (avs (Firmware.cells f))), (0, .box 25 (avs (Home.cells h)))] 2 ?_
 refine AWp.seq ?_
 refine AWp.join (Z 51 [(2, .rv (.sl 2 (v.map Pair.cells))), (3, .ptr 0 0), (4, .ptr 1 0), (24, vb ((!(homeM h) || decide (((f.sums.length : Nat) : Int) > 80)) || decide (((v.length : Nat) : Int) > 40)))] [(1, .box 28 (avs (Firmware.cells f))), (0, .box 25 (avs (Home.cells h)))] 2) ?_ ?_
 ·
  refine AWp.region ?_
  refine AOps.hg [.run 1, .call 8 [.agg (avs (Home.cells h))] (vb (homeM h)) [] 0 (homeM_ok h), .run 2] (!(homeM h)) 51 (fun b_ => [(2, .rv (.sl 2 (v.map Pair.cells))), (3, .ptr 0 0), (4, .ptr 1 0), (14, vb b_)]) [(1, .box 28 (avs (Firmware.cells f))), (0, .box 25 (avs (Home.cells h)))] 2 (fun hg1 => ?_) (fun hg1 => ?_)
  ·
   refine AOps.he [.run 10] 51 [(2, .rv (.sl 2 (v.map Pair.cells))), (3, .ptr 0 0), (4, .ptr 1 0), (24, vb true)] [(1, .box 28 (avs (Firmware.cells f))), (0, .box 25 (avs (Home.cells h)))] 2 ?_
   exact leZ (by rw [hg1]; first | done | kernel_rfl)
  ·
   refine AOps.hzl [.run 2, .len intC f.sums 1, .run 3] 51 [(2, .rv (.sl 2 (v.map Pair.cells))), (3, .ptr 0 0), (4, .ptr 1 0), (20, vb (decide (((f.sums.length : Nat) : Int) > 80)))] [(1, .box 28 (avs (Firmware.cells f))), (0, .box 25 (avs (Home.cells h)))] 2 (fun hl => ?_)
   obtain ⟨hn2, -⟩ := hl
   refine AOps.hg [] (decide (((f.sums.length : Nat) : Int) > 80)) 51 (fun b_ => [(2, .rv (.sl 2 (v.map Pair.cells))), (3, .ptr 0 0), (4, .ptr 1 0), (20, vb b_)]) [(1, .box 28 (avs (Firmware.cells f))), (0, .box 25 (avs (Home.cells h)))] 2 (fun hg3 => ?_) (fun hg3 => ?_)
   ·
    have hg3' := of_decide_eq_true hg3
    refine AOps.he [.run 4] 51 [(2, .rv (.sl 2 (v.map Pair.cells))), (3, .ptr 0 0), (4, .ptr 1 0), (24, vb true)] [(1, .box 28 (avs (Firmware.cells f))), (0, .box 25 (avs (Home.cells h)))] 2 ?_
    exact leZ (by rw [hg1, hg3]; first | done | kernel_rfl)
   ·
    have hg3' := of_decide_eq_false hg3
    refine AOps.hel [.run 1, .len Pair.cells v 2, .run 2] 51 [(2, .rv (.sl 2 (v.map Pair.cells))), (3, .ptr 0 0), (4, .ptr 1 0), (24, vb (decide (((v.length : Nat) : Int) > 40)))] [(1, .box 28 (avs (Firmware.cells f))), (0, .box 25 (avs (Home.cells h)))] 2 (fun hl => ?_)
    obtain ⟨hn4, -⟩ := hl
    exact leZ (by rw [hg1, hg3]; first | done | kernel_rfl)
 ·
  refine AWp.cnd (((!(homeM h) || decide (((f.sums.length : Nat) : Int) > 80)) || decide (((v.length : Nat) : Int) > 40))) (fun h5 => ?_) (fun h5 => ?_)
  ·
   refine AWp.hz [.call 9 [] (vb true) [] 0 (awake_ok), .run 1] 51 [(6, vb true)] [] 2 ?_
   refine AWp.ret ?_
   exact leafR (r := vb true) (by unfold lPlansM; (try rw [h5]); first | done | kernel_rfl)
  ·
   have h5l := or_fl h5
   have h5ll := or_fl h5l
   have h5lr := or_fr h5l
   have h5lr' := of_decide_eq_false h5lr
   have h5r := or_fr h5
   have h5r' := of_decide_eq_false h5r
   refine AWp.skip ?_
   refine AWp.hz [.run 3, .call 10 [.agg (avs (Home.cells h)), .agg (avs (Firmware.cells f)), .rv (.sl 2 (v.map Pair.cells))] (.tuple [.rv (.sl 6 (((newM h f v).1).map Update.cells)), vi ((newM h f v).2)]) [] 0 (newM_ok h f v (by first | (with_reducible first | assumption | exact Good.len (by assumption) | exact Good.fit (by assumption) | exact few_good (by assumption) | exact home_dev (by assumption) | exact Good.len (few_good (by assumption)) | exact Good.fit (few_good (by assumption))) | omega) (by first | (with_reducible first | assumption | exact Good.len (by assumption) | exact Good.fit (by assumption) | exact few_good (by assumption) | exact home_dev (by assumption) | exact Good.len (few_good (by assumption)) | exact Good.fit (few_good (by assumption))) | omega)), .run 5] 51 [(2, .rv (.sl 2 (v.map Pair.cells))), (3, .ptr 0 0), (4, .ptr 1 0), (7, .rv (.sl 6 (((newM h f v).1).map Update.cells))), (8, vi ((newM h f v).2))] [(1, .box 28 (avs (Firmware.cells f))), (0, .box 25 (avs (Home.cells h)))] 2 ?_
   refine AWp.hz [.run 3, .call 11 [.agg (avs (Home.cells h)), .agg (avs (Firmware.cells f)), .rv (.sl 2 (v.map Pair.cells))] (.tuple [.rv (.sl 6 (((rnewM h f v).1).map Update.cells)), vi ((rnewM h f v).2)]) [] 0 (rnewM_ok h f v (by first | (with_reducible first | assumption | exact Good.len (by assumption) | exact Good.fit (by assumption) | exact few_good (by assumption) | exact home_dev (by assumption) | exact Good.len (few_good (by assumption)) | exact Good.fit (few_good (by assumption))) | omega) (by first | (with_reducible first | assumption | exact Good.len (by assumption) | exact Good.fit (by assumption) | exact few_good (by assumption) | exact home_dev (by assumption) | exact Good.len (few_good (by assumption)) | exact Good.fit (few_good (by assumption))) | omega)), .run 5] 51 [(7, .rv (.sl 6 (((newM h f v).1).map Update.cells))), (8, vi ((newM h f v).2)), (9, .rv (.sl 6 (((rnewM h f v).1).map Update.cells))), (10, vi ((rnewM h f v).2))] [] 2 ?_
   refine AWp.join (Z 51 [(6, vb (sameM ((newM h f v).1) ((rnewM h f v).1) && (((newM h f v).2) == ((rnewM h f v).2))))] [] 2) ?_ ?_
   ·
    refine AWp.region ?_
    refine AOps.hg [.run 2, .call 12 [.rv (.sl 6 (((newM h f v).1).map Update.cells)), .rv (.sl 6 (((rnewM h f v).1).map Update.cells))] (vb (sameM ((newM h f v).1) ((rnewM h f v).1))) [] 0 (sameM_ok ((newM h f v).1) ((rnewM h f v).1)), .run 1] (sameM ((newM h f v).1) ((rnewM h f v).1)) 51 (fun b_ => [(8, vi ((newM h f v).2)), (10, vi ((rnewM h f v).2)), (43, vb b_)]) [] 2 (fun hg6 => ?_) (fun hg6 => ?_)
    ·
     refine AOps.hg [.run 5] ((((newM h f v).2) == ((rnewM h f v).2))) 51 (fun b_ => [(48, vb b_)]) [] 2 (fun hg7 => ?_) (fun hg7 => ?_)
     ·
      refine AOps.he [.call 9 [] (vb true) [] 0 (awake_ok), .run 2] 51 [(6, vb true)] [] 2 ?_
      exact leZ (by rw [hg6, hg7]; first | done | kernel_rfl)
     ·
      refine AOps.he [.run 3] 51 [(6, vb false)] [] 2 ?_
      exact leZ (by rw [hg6, hg7]; first | done | kernel_rfl)
    ·
     refine AOps.he [.run 8] 51 [(6, vb false)] [] 2 ?_
     exact leZ (by rw [hg6]; first | done | kernel_rfl)
   ·
    refine AWp.ret ?_
    exact leafR (r := vb (sameM ((newM h f v).1) ((rnewM h f v).1) && (((newM h f v).2) == ((rnewM h f v).2)))) (by unfold lPlansM; (try rw [h5]); first | done | kernel_rfl)
def lAsksM (l : List Update) (f : Firmware) : Bool :=
  ((!(fewM l) || decide (((f.sums.length : Nat) : Int) > 80)) || ((waveOfM l f == rwaveM l f) && (((stoppedM l) == (rstoppedM l)) && samePairsM (sendM l f) (rsendM l f))))
theorem lAsksM_ok (l : List Update) (f : Firmware) :
 ACalls Try.prog G_ 4 [.rv (.sl 6 (l.map Update.cells)), .agg (avs (Firmware.cells f))] [] 0 (fun r τ => r = vb (lAsksM l f) ∧ τ = []) := by
 refine ACalls.body Try.func4 rfl 41 [(0, .rv (.sl 6 (l.map Update.cells))), (1, .agg (avs (Firmware.cells f)))] ?_
 refine AWp.hz [.run 2] 41 [(0, .rv (.sl 6 (l.map Update.cells))), (3, .ptr 0 0)] [(0, .box 28 (avs (Firmware.cells f)))] 1 ?_
 refine AWp.seq ?_
 refine AWp.join (Z 41 [(0, .rv (.sl 6 (l.map Update.cells))), (3, .ptr 0 0), (13, vb (!(fewM l) || decide (((f.sums.length : Nat) : Int) > 80)))] [(0, .box 28 (avs (Firmware.cells f)))] 1) ?_ ?_
 ·
  refine AWp.region ?_
  refine AOps.hg [.run 1, .call 13 [.rv (.sl 6 (l.map Update.cells))] (vb (fewM l)) [] 0 (fewM_ok l), .run 2] (!(fewM l)) 41 (fun b_ => [(0, .rv (.sl 6 (l.map Update.cells))), (3, .ptr 0 0), (8, vb b_)]) [(0, .box 28 (avs (Firmware.cells f)))] 1 (fun hg1 => ?_) (fun hg1 => ?_)
  ·
   refine AOps.he [.run 5] 41 [(0, .rv (.sl 6 (l.map Update.cells))), (3, .ptr 0 0), (13, vb true)] [(0, .box 28 (avs (Firmware.cells f)))] 1 ?_
   exact leZ (by rw [hg1]; first | done | kernel_rfl)
  ·
   refine AOps.hel [.run 2, .len intC f.sums 1, .run 2] 41 [(0, .rv (.sl 6 (l.map Update.cells))), (3, .ptr 0 0), (13, vb (decide (((f.sums.length : Nat) : Int) > 80)))] [(0, .box 28 (avs (Firmware.cells f)))] 1 (fun hl => ?_)
   obtain ⟨hn2, -⟩ := hl
   exact leZ (by rw [hg1]; first | done | kernel_rfl)
 ·
  refine AWp.cnd ((!(fewM l) || decide (((f.sums.length : Nat) : Int) > 80))) (fun h3 => ?_) (fun h3 => ?_)
  ·
   refine AWp.hz [.call 9 [] (vb true) [] 0 (awake_ok), .run 1] 41 [(4, vb true)] [] 1 ?_
   refine AWp.ret ?_
   exact leafR (r := vb true) (by unfold lAsksM; (try rw [h3]); first | done | kernel_rfl)
  ·
   have h3l := or_fl h3
   have h3r := or_fr h3
   have h3r' := of_decide_eq_false h3r
   refine AWp.skip ?_
   refine AWp.split ((waveOfM l f == rwaveM l f)) (fun h4 => ?_) (fun h4 => ?_)
   ·
    refine AWp.split (((stoppedM l) == (rstoppedM l))) (fun h5 => ?_) (fun h5 => ?_)
    ·
     refine AWp.split (samePairsM (sendM l f) (rsendM l f)) (fun h6 => ?_) (fun h6 => ?_)
     ·
      refine AWp.dz [.rv (.sl 6 (l.map Update.cells)), .agg (avs (Firmware.cells f)), vi (waveOfM l f), .rv (.sl 6 (l.map Update.cells)), .agg (avs (Firmware.cells f)), vi (rwaveM l f), vb true, vb true, .rv (.sl 6 (l.map Update.cells)), vb (stoppedM l), .rv (.sl 6 (l.map Update.cells)), vb (rstoppedM l), vb true, vb true, vb true, .rv (.sl 6 (l.map Update.cells)), .agg (avs (Firmware.cells f)), .rv (.sl 2 ((sendM l f).map Pair.cells)), .rv (.sl 6 (l.map Update.cells)), .agg (avs (Firmware.cells f)), .rv (.sl 2 ((rsendM l f).map Pair.cells)), vb true, vb true, vb true, vb true, vb true, vb true] 41 [(4, vb true)] [] 1 ?_ ?_
      ·
       refine DSteps.cons (DStep.va) ?_
       refine DSteps.cons (DStep.va) ?_
       refine DSteps.cons (DStep.call rfl (by kernel_rfl) (by kernel_rfl) (by kernel_rfl) (args := [.rv (.sl 6 (l.map Update.cells)), .agg (avs (Firmware.cells f))]) (by kernel_rfl) (by kernel_rfl) (waveOfM_ok l f (by first | (with_reducible first | assumption | exact Good.len (by assumption) | exact Good.fit (by assumption) | exact few_good (by assumption) | exact home_dev (by assumption) | exact Good.len (few_good (by assumption)) | exact Good.fit (few_good (by assumption))) | omega)) (by kernel_rfl) (Nat.le_of_ble_eq_true (by kernel_rfl))) ?_
       refine DSteps.cons (DStep.va) ?_
       refine DSteps.cons (DStep.va) ?_
       refine DSteps.cons (DStep.call rfl (by kernel_rfl) (by kernel_rfl) (by kernel_rfl) (args := [.rv (.sl 6 (l.map Update.cells)), .agg (avs (Firmware.cells f))]) (by kernel_rfl) (by kernel_rfl) (rwaveM_ok l f (by first | (with_reducible first | assumption | exact Good.len (by assumption) | exact Good.fit (by assumption) | exact few_good (by assumption) | exact home_dev (by assumption) | exact Good.len (few_good (by assumption)) | exact Good.fit (few_good (by assumption))) | omega)) (by kernel_rfl) (Nat.le_of_ble_eq_true (by kernel_rfl))) ?_
       refine DSteps.cons ((DStep.val (v := vb (waveOfM l f == rwaveM l f)) (by kernel_rfl) (by kernel_rfl)).cast (congrArg vb h4)) ?_
       refine DSteps.cons (DStep.va) ?_
       refine DSteps.cons (DStep.va) ?_
       refine DSteps.cons (DStep.call rfl (by kernel_rfl) (by kernel_rfl) (by kernel_rfl) (args := [.rv (.sl 6 (l.map Update.cells))]) (by kernel_rfl) (by kernel_rfl) (stoppedM_ok l) (by kernel_rfl) (Nat.le_of_ble_eq_true (by kernel_rfl))) ?_
       refine DSteps.cons (DStep.va) ?_
       refine DSteps.cons (DStep.call rfl (by kernel_rfl) (by kernel_rfl) (by kernel_rfl) (args := [.rv (.sl 6 (l.map Update.cells))]) (by kernel_rfl) (by kernel_rfl) (rstoppedM_ok l) (by kernel_rfl) (Nat.le_of_ble_eq_true (by kernel_rfl))) ?_
       refine DSteps.cons ((DStep.val (v := vb ((stoppedM l) == (rstoppedM l))) (by kernel_rfl) (by kernel_rfl)).cast (congrArg vb h5)) ?_
       refine DSteps.cons (DStep.va) ?_
       refine DSteps.cons (DStep.va) ?_
       refine DSteps.cons (DStep.va) ?_
       refine DSteps.cons (DStep.va) ?_
       refine DSteps.cons (DStep.call rfl (by kernel_rfl) (by kernel_rfl) (by kernel_rfl) (args := [.rv (.sl 6 (l.map Update.cells)), .agg (avs (Firmware.cells f))]) (by kernel_rfl) (by kernel_rfl) (sendM_ok l f (by first | (with_reducible first | assumption | exact Good.len (by assumption) | exact Good.fit (by assumption) | exact few_good (by assumption) | exact home_dev (by assumption) | exact Good.len (few_good (by assumption)) | exact Good.fit (few_good (by assumption))) | omega)) (by kernel_rfl) (Nat.le_of_ble_eq_true (by kernel_rfl))) ?_
       refine DSteps.cons (DStep.va) ?_
       refine DSteps.cons (DStep.va) ?_
       refine DSteps.cons (DStep.call rfl (by kernel_rfl) (by kernel_rfl) (by kernel_rfl) (args := [.rv (.sl 6 (l.map Update.cells)), .agg (avs (Firmware.cells f))]) (by kernel_rfl) (by kernel_rfl) (rsendM_ok l f (by first | (with_reducible first | assumption | exact Good.len (by assumption) | exact Good.fit (by assumption) | exact few_good (by assumption) | exact home_dev (by assumption) | exact Good.len (few_good (by assumption)) | exact Good.fit (few_good (by assumption))) | omega)) (by kernel_rfl) (Nat.le_of_ble_eq_true (by kernel_rfl))) ?_
       refine DSteps.cons ((DStep.call rfl (by kernel_rfl) (by kernel_rfl) (by kernel_rfl) (args := [.rv (.sl 2 ((sendM l f).map Pair.cells)), .rv (.sl 2 ((rsendM l f).map Pair.cells))]) (by kernel_rfl) (by kernel_rfl) (samePairsM_ok (sendM l f) (rsendM l f)) (by kernel_rfl) (Nat.le_of_ble_eq_true (by kernel_rfl))).cast (congrArg vb h6)) ?_
       refine DSteps.cons (DStep.va) ?_
       refine DSteps.cons (DStep.va) ?_
       refine DSteps.cons (DStep.call rfl (by kernel_rfl) (by kernel_rfl) (by kernel_rfl) (args := []) (by kernel_rfl) (by kernel_rfl) (awake_ok) (by kernel_rfl) (Nat.le_of_ble_eq_true (by kernel_rfl))) ?_
       refine DSteps.cons (DStep.va) ?_
       refine DSteps.cons (DStep.va) ?_
       exact DSteps.nl
      refine AWp.ret ?_
      exact leafR (r := vb true) (by unfold lAsksM; (try rw [h3]); (try rw [h4]); (try rw [h5]); (try rw [h6]); first | done | kernel_rfl)
     ·
      refine AWp.dz [.rv (.sl 6 (l.map Update.cells)), .agg (avs (Firmware.cells f)), vi (waveOfM l f), .rv (.sl 6 (l.map Update.cells)), .agg (avs (Firmware.cells f)), vi (rwaveM l f), vb true, vb true, .rv (.sl 6 (l.map Update.cells)), vb (stoppedM l), .rv (.sl 6 (l.map Update.cells)), vb (rstoppedM l), vb true, vb true, vb true, .rv (.sl 6 (l.map Update.cells)), .agg (avs (Firmware.cells f)), .rv (.sl 2 ((sendM l f).map Pair.cells)), .rv (.sl 6 (l.map Update.cells)), .agg (avs (Firmware.cells f)), .rv (.sl 2 ((rsendM l f).map Pair.cells)), vb false, vb false, vb false, .tuple [], vb false, vb false] 41 [(4, vb false)] [] 1 ?_ ?_
      ·
       refine DSteps.cons (DStep.va) ?_
       refine DSteps.cons (DStep.va) ?_
       refine DSteps.cons (DStep.call rfl (by kernel_rfl) (by kernel_rfl) (by kernel_rfl) (args := [.rv (.sl 6 (l.map Update.cells)), .agg (avs (Firmware.cells f))]) (by kernel_rfl) (by kernel_rfl) (waveOfM_ok l f (by first | (with_reducible first | assumption | exact Good.len (by assumption) | exact Good.fit (by assumption) | exact few_good (by assumption) | exact home_dev (by assumption) | exact Good.len (few_good (by assumption)) | exact Good.fit (few_good (by assumption))) | omega)) (by kernel_rfl) (Nat.le_of_ble_eq_true (by kernel_rfl))) ?_
       refine DSteps.cons (DStep.va) ?_
       refine DSteps.cons (DStep.va) ?_
       refine DSteps.cons (DStep.call rfl (by kernel_rfl) (by kernel_rfl) (by kernel_rfl) (args := [.rv (.sl 6 (l.map Update.cells)), .agg (avs (Firmware.cells f))]) (by kernel_rfl) (by kernel_rfl) (rwaveM_ok l f (by first | (with_reducible first | assumption | exact Good.len (by assumption) | exact Good.fit (by assumption) | exact few_good (by assumption) | exact home_dev (by assumption) | exact Good.len (few_good (by assumption)) | exact Good.fit (few_good (by assumption))) | omega)) (by kernel_rfl) (Nat.le_of_ble_eq_true (by kernel_rfl))) ?_
       refine DSteps.cons ((DStep.val (v := vb (waveOfM l f == rwaveM l f)) (by kernel_rfl) (by kernel_rfl)).cast (congrArg vb h4)) ?_
       refine DSteps.cons (DStep.va) ?_
       refine DSteps.cons (DStep.va) ?_
       refine DSteps.cons (DStep.call rfl (by kernel_rfl) (by kernel_rfl) (by kernel_rfl) (args := [.rv (.sl 6 (l.map Update.cells))]) (by kernel_rfl) (by kernel_rfl) (stoppedM_ok l) (by kernel_rfl) (Nat.le_of_ble_eq_true (by kernel_rfl))) ?_
       refine DSteps.cons (DStep.va) ?_
       refine DSteps.cons (DStep.call rfl (by kernel_rfl) (by kernel_rfl) (by kernel_rfl) (args := [.rv (.sl 6 (l.map Update.cells))]) (by kernel_rfl) (by kernel_rfl) (rstoppedM_ok l) (by kernel_rfl) (Nat.le_of_ble_eq_true (by kernel_rfl))) ?_
       refine DSteps.cons ((DStep.val (v := vb ((stoppedM l) == (rstoppedM l))) (by kernel_rfl) (by kernel_rfl)).cast (congrArg vb h5)) ?_
       refine DSteps.cons (DStep.va) ?_
       refine DSteps.cons (DStep.va) ?_
       refine DSteps.cons (DStep.va) ?_
       refine DSteps.cons (DStep.va) ?_
       refine DSteps.cons (DStep.call rfl (by kernel_rfl) (by kernel_rfl) (by kernel_rfl) (args := [.rv (.sl 6 (l.map Update.cells)), .agg (avs (Firmware.cells f))]) (by kernel_rfl) (by kernel_rfl) (sendM_ok l f (by first | (with_reducible first | assumption | exact Good.len (by assumption) | exact Good.fit (by assumption) | exact few_good (by assumption) | exact home_dev (by assumption) | exact Good.len (few_good (by assumption)) | exact Good.fit (few_good (by assumption))) | omega)) (by kernel_rfl) (Nat.le_of_ble_eq_true (by kernel_rfl))) ?_
       refine DSteps.cons (DStep.va) ?_
       refine DSteps.cons (DStep.va) ?_
       refine DSteps.cons (DStep.call rfl (by kernel_rfl) (by kernel_rfl) (by kernel_rfl) (args := [.rv (.sl 6 (l.map Update.cells)), .agg (avs (Firmware.cells f))]) (by kernel_rfl) (by kernel_rfl) (rsendM_ok l f (by first | (with_reducible first | assumption | exact Good.len (by assumption) | exact Good.fit (by assumption) | exact few_good (by assumption) | exact home_dev (by assumption) | exact Good.len (few_good (by assumption)) | exact Good.fit (few_good (by assumption))) | omega)) (by kernel_rfl) (Nat.le_of_ble_eq_true (by kernel_rfl))) ?_
       refine DSteps.cons ((DStep.call rfl (by kernel_rfl) (by kernel_rfl) (by kernel_rfl) (args := [.rv (.sl 2 ((sendM l f).map Pair.cells)), .rv (.sl 2 ((rsendM l f).map Pair.cells))]) (by kernel_rfl) (by kernel_rfl) (samePairsM_ok (sendM l f) (rsendM l f)) (by kernel_rfl) (Nat.le_of_ble_eq_true (by kernel_rfl))).cast (congrArg vb h6)) ?_
       refine DSteps.cons (DStep.va) ?_
       refine DSteps.cons (DStep.va) ?_
       refine DSteps.cons (DStep.skip (by kernel_rfl)) ?_
       refine DSteps.cons (DStep.va) ?_
       refine DSteps.cons (DStep.va) ?_
       exact DSteps.nl
      refine AWp.ret ?_
      exact leafR (r := vb false) (by unfold lAsksM; (try rw [h3]); (try rw [h4]); (try rw [h5]); (try rw [h6]); first | done | kernel_rfl)
    ·
     refine AWp.dz [.rv (.sl 6 (l.map Update.cells)), .agg (avs (Firmware.cells f)), vi (waveOfM l f), .rv (.sl 6 (l.map Update.cells)), .agg (avs (Firmware.cells f)), vi (rwaveM l f), vb true, vb true, .rv (.sl 6 (l.map Update.cells)), vb (stoppedM l), .rv (.sl 6 (l.map Update.cells)), vb (rstoppedM l), vb false, vb false, vb false, .tuple [], .tuple [], .tuple [], .tuple [], .tuple [], .tuple [], .tuple [], vb false, vb false, .tuple [], vb false, vb false] 41 [(4, vb false)] [] 1 ?_ ?_
     ·
      refine DSteps.cons (DStep.va) ?_
      refine DSteps.cons (DStep.va) ?_
      refine DSteps.cons (DStep.call rfl (by kernel_rfl) (by kernel_rfl) (by kernel_rfl) (args := [.rv (.sl 6 (l.map Update.cells)), .agg (avs (Firmware.cells f))]) (by kernel_rfl) (by kernel_rfl) (waveOfM_ok l f (by first | (with_reducible first | assumption | exact Good.len (by assumption) | exact Good.fit (by assumption) | exact few_good (by assumption) | exact home_dev (by assumption) | exact Good.len (few_good (by assumption)) | exact Good.fit (few_good (by assumption))) | omega)) (by kernel_rfl) (Nat.le_of_ble_eq_true (by kernel_rfl))) ?_
      refine DSteps.cons (DStep.va) ?_
      refine DSteps.cons (DStep.va) ?_
      refine DSteps.cons (DStep.call rfl (by kernel_rfl) (by kernel_rfl) (by kernel_rfl) (args := [.rv (.sl 6 (l.map Update.cells)), .agg (avs (Firmware.cells f))]) (by kernel_rfl) (by kernel_rfl) (rwaveM_ok l f (by first | (with_reducible first | assumption | exact Good.len (by assumption) | exact Good.fit (by assumption) | exact few_good (by assumption) | exact home_dev (by assumption) | exact Good.len (few_good (by assumption)) | exact Good.fit (few_good (by assumption))) | omega)) (by kernel_rfl) (Nat.le_of_ble_eq_true (by kernel_rfl))) ?_
      refine DSteps.cons ((DStep.val (v := vb (waveOfM l f == rwaveM l f)) (by kernel_rfl) (by kernel_rfl)).cast (congrArg vb h4)) ?_
      refine DSteps.cons (DStep.va) ?_
      refine DSteps.cons (DStep.va) ?_
      refine DSteps.cons (DStep.call rfl (by kernel_rfl) (by kernel_rfl) (by kernel_rfl) (args := [.rv (.sl 6 (l.map Update.cells))]) (by kernel_rfl) (by kernel_rfl) (stoppedM_ok l) (by kernel_rfl) (Nat.le_of_ble_eq_true (by kernel_rfl))) ?_
      refine DSteps.cons (DStep.va) ?_
      refine DSteps.cons (DStep.call rfl (by kernel_rfl) (by kernel_rfl) (by kernel_rfl) (args := [.rv (.sl 6 (l.map Update.cells))]) (by kernel_rfl) (by kernel_rfl) (rstoppedM_ok l) (by kernel_rfl) (Nat.le_of_ble_eq_true (by kernel_rfl))) ?_
      refine DSteps.cons ((DStep.val (v := vb ((stoppedM l) == (rstoppedM l))) (by kernel_rfl) (by kernel_rfl)).cast (congrArg vb h5)) ?_
      refine DSteps.cons (DStep.va) ?_
      refine DSteps.cons (DStep.va) ?_
      refine DSteps.cons (DStep.skip (by kernel_rfl)) ?_
      refine DSteps.cons (DStep.skip (by kernel_rfl)) ?_
      refine DSteps.cons (DStep.skip (by kernel_rfl)) ?_
      refine DSteps.cons (DStep.skip (by kernel_rfl)) ?_
      refine DSteps.cons (DStep.skip (by kernel_rfl)) ?_
      refine DSteps.cons (DStep.skip (by kernel_rfl)) ?_
      refine DSteps.cons (DStep.skip (by kernel_rfl)) ?_
      refine DSteps.cons (DStep.va) ?_
      refine DSteps.cons (DStep.va) ?_
      refine DSteps.cons (DStep.skip (by kernel_rfl)) ?_
      refine DSteps.cons (DStep.va) ?_
      refine DSteps.cons (DStep.va) ?_
      exact DSteps.nl
     refine AWp.ret ?_
     exact leafR (r := vb false) (by unfold lAsksM; (try rw [h3]); (try rw [h4]); (try rw [h5]); first | done | kernel_rfl)
   ·
    refine AWp.dz [.rv (.sl 6 (l.map Update.cells)), .agg (avs (Firmware.cells f)), vi (waveOfM l f), .rv (.sl 6 (l.map Update.cells)), .agg (avs (Firmware.cells f)), vi (rwaveM l f), vb false, vb false, .tuple [], .tuple [], .tuple [], .tuple [], .tuple [], vb false, vb false, .tuple [], .tuple [], .tuple [], .tuple [], .tuple [], .tuple [], .tuple [], vb false, vb false, .tuple [], vb false, vb false] 41 [(4, vb false)] [] 1 ?_ ?_
    ·
     refine DSteps.cons (DStep.va) ?_
     refine DSteps.cons (DStep.va) ?_
     refine DSteps.cons (DStep.call rfl (by kernel_rfl) (by kernel_rfl) (by kernel_rfl) (args := [.rv (.sl 6 (l.map Update.cells)), .agg (avs (Firmware.cells f))]) (by kernel_rfl) (by kernel_rfl) (waveOfM_ok l f (by first | (with_reducible first | assumption | exact Good.len (by assumption) | exact Good.fit (by assumption) | exact few_good (by assumption) | exact home_dev (by assumption) | exact Good.len (few_good (by assumption)) | exact Good.fit (few_good (by assumption))) | omega)) (by kernel_rfl) (Nat.le_of_ble_eq_true (by kernel_rfl))) ?_
     refine DSteps.cons (DStep.va) ?_
     refine DSteps.cons (DStep.va) ?_
     refine DSteps.cons (DStep.call rfl (by kernel_rfl) (by kernel_rfl) (by kernel_rfl) (args := [.rv (.sl 6 (l.map Update.cells)), .agg (avs (Firmware.cells f))]) (by kernel_rfl) (by kernel_rfl) (rwaveM_ok l f (by first | (with_reducible first | assumption | exact Good.len (by assumption) | exact Good.fit (by assumption) | exact few_good (by assumption) | exact home_dev (by assumption) | exact Good.len (few_good (by assumption)) | exact Good.fit (few_good (by assumption))) | omega)) (by kernel_rfl) (Nat.le_of_ble_eq_true (by kernel_rfl))) ?_
     refine DSteps.cons ((DStep.val (v := vb (waveOfM l f == rwaveM l f)) (by kernel_rfl) (by kernel_rfl)).cast (congrArg vb h4)) ?_
     refine DSteps.cons (DStep.va) ?_
     refine DSteps.cons (DStep.skip (by kernel_rfl)) ?_
     refine DSteps.cons (DStep.skip (by kernel_rfl)) ?_
     refine DSteps.cons (DStep.skip (by kernel_rfl)) ?_
     refine DSteps.cons (DStep.skip (by kernel_rfl)) ?_
     refine DSteps.cons (DStep.skip (by kernel_rfl)) ?_
     refine DSteps.cons (DStep.va) ?_
     refine DSteps.cons (DStep.va) ?_
     refine DSteps.cons (DStep.skip (by kernel_rfl)) ?_
     refine DSteps.cons (DStep.skip (by kernel_rfl)) ?_
     refine DSteps.cons (DStep.skip (by kernel_rfl)) ?_
     refine DSteps.cons (DStep.skip (by kernel_rfl)) ?_
     refine DSteps.cons (DStep.skip (by kernel_rfl)) ?_
     refine DSteps.cons (DStep.skip (by kernel_rfl)) ?_
     refine DSteps.cons (DStep.skip (by kernel_rfl)) ?_
     refine DSteps.cons (DStep.va) ?_
     refine DSteps.cons (DStep.va) ?_
     refine DSteps.cons (DStep.skip (by kernel_rfl)) ?_
     refine DSteps.cons (DStep.va) ?_
     refine DSteps.cons (DStep.va) ?_
     exact DSteps.nl
    refine AWp.ret ?_
    exact leafR (r := vb false) (by unfold lAsksM; (try rw [h3]); (try rw [h4]); first | done | kernel_rfl)
def lStepsM (l : List Update) (f : Firmware) (o : Op51) : Bool :=
  (((!(fewM l) || decide (((f.sums.length : Nat) : Int) > 80)) || decide (((o.have_.length : Nat) : Int) > 100)) || sameM (stepM l f o) (rstepM l f o))
theorem lStepsM_ok (l : List Update) (f : Firmware) (o : Op51) :
 ACalls Try.prog G_ 6 [.rv (.sl 6 (l.map Update.cells)), .agg (avs (Firmware.cells f)), .agg (avs (Op51.cells o))] [] 0 (fun r τ => r = vb (lStepsM l f o) ∧ τ = []) := by
 refine ACalls.body Try.func6 rfl 35 [(0, .rv (.sl 6 (l.map Update.cells))), (1, .agg (avs (Firmware.cells f))), (2, .agg (avs (Op51.cells o)))] ?_
 refine AWp.hz [.run 3] 35 [(0, .rv (.sl 6 (l.map Update.cells))), (4, .ptr 0 0), (5, .ptr 1 0)] [(1, .box 57 (avs (Op51.cells o))), (0, .box 28 (avs (Firmware.cells f)))] 2 ?_
 refine AWp.seq ?_
 refine AWp.join (Z 35 [(0, .rv (.sl 6 (l.map Update.cells))), (4, .ptr 0 0), (5, .ptr 1 0), (21, vb ((!(fewM l) || decide (((f.sums.length : Nat) : Int) > 80)) || decide (((o.have_.length : Nat) : Int) > 100)))] [(1, .box 57 (avs (Op51.cells o))), (0, .box 28 (avs (Firmware.cells f)))] 2) ?_ ?_
 ·
  refine AWp.region ?_
  refine AOps.hg [.run 1, .call 13 [.rv (.sl 6 (l.map Update.cells))] (vb (fewM l)) [] 0 (fewM_ok l), .run 2] (!(fewM l)) 35 (fun b_ => [(0, .rv (.sl 6 (l.map Update.cells))), (4, .ptr 0 0), (5, .ptr 1 0), (10, vb b_)]) [(1, .box 57 (avs (Op51.cells o))), (0, .box 28 (avs (Firmware.cells f)))] 2 (fun hg1 => ?_) (fun hg1 => ?_)
  ·
   refine AOps.he [.run 11] 35 [(0, .rv (.sl 6 (l.map Update.cells))), (4, .ptr 0 0), (5, .ptr 1 0), (21, vb true)] [(1, .box 57 (avs (Op51.cells o))), (0, .box 28 (avs (Firmware.cells f)))] 2 ?_
   exact leZ (by rw [hg1]; first | done | kernel_rfl)
  ·
   refine AOps.hzl [.run 2, .len intC f.sums 1, .run 3] 35 [(0, .rv (.sl 6 (l.map Update.cells))), (4, .ptr 0 0), (5, .ptr 1 0), (16, vb (decide (((f.sums.length : Nat) : Int) > 80)))] [(1, .box 57 (avs (Op51.cells o))), (0, .box 28 (avs (Firmware.cells f)))] 2 (fun hl => ?_)
   obtain ⟨hn2, -⟩ := hl
   refine AOps.hg [] (decide (((f.sums.length : Nat) : Int) > 80)) 35 (fun b_ => [(0, .rv (.sl 6 (l.map Update.cells))), (4, .ptr 0 0), (5, .ptr 1 0), (16, vb b_)]) [(1, .box 57 (avs (Op51.cells o))), (0, .box 28 (avs (Firmware.cells f)))] 2 (fun hg3 => ?_) (fun hg3 => ?_)
   ·
    have hg3' := of_decide_eq_true hg3
    refine AOps.he [.run 5] 35 [(0, .rv (.sl 6 (l.map Update.cells))), (4, .ptr 0 0), (5, .ptr 1 0), (21, vb true)] [(1, .box 57 (avs (Op51.cells o))), (0, .box 28 (avs (Firmware.cells f)))] 2 ?_
    exact leZ (by rw [hg1, hg3]; first | done | kernel_rfl)
   ·
    have hg3' := of_decide_eq_false hg3
    refine AOps.hel [.run 2, .len boolC o.have_ 1, .run 2] 35 [(0, .rv (.sl 6 (l.map Update.cells))), (4, .ptr 0 0), (5, .ptr 1 0), (21, vb (decide (((o.have_.length : Nat) : Int) > 100)))] [(1, .box 57 (avs (Op51.cells o))), (0, .box 28 (avs (Firmware.cells f)))] 2 (fun hl => ?_)
    obtain ⟨hn4, -⟩ := hl
    exact leZ (by rw [hg1, hg3]; first | done | kernel_rfl)
 ·
  refine AWp.cnd (((!(fewM l) || decide (((f.sums.length : Nat) : Int) > 80)) || decide (((o.have_.length : Nat) : Int) > 100))) (fun h5 => ?_) (fun h5 => ?_)
  ·
   refine AWp.hz [.call 9 [] (vb true) [] 0 (awake_ok), .run 1] 35 [(6, vb true)] [] 2 ?_
   refine AWp.ret ?_
   exact leafR (r := vb true) (by unfold lStepsM; (try rw [h5]); first | done | kernel_rfl)
  ·
   have h5l := or_fl h5
   have h5ll := or_fl h5l
   have h5lr := or_fr h5l
   have h5lr' := of_decide_eq_false h5lr
   have h5r := or_fr h5
   have h5r' := of_decide_eq_false h5r
   refine AWp.skip ?_
   refine AWp.split (sameM (stepM l f o) (rstepM l f o)) (fun h6 => ?_) (fun h6 => ?_)
   ·
    refine AWp.dz [.rv (.sl 6 (l.map Update.cells)), .agg (avs (Firmware.cells f)), .agg (avs (Op51.cells o)), .rv (.sl 6 ((stepM l f o).map Update.cells)), .rv (.sl 6 (l.map Update.cells)), .agg (avs (Firmware.cells f)), .agg (avs (Op51.cells o)), .rv (.sl 6 ((rstepM l f o).map Update.cells)), vb true, vb true, vb true, vb true, vb true] 35 [(6, vb true)] [] 2 ?_ ?_
    ·
     refine DSteps.cons (DStep.va) ?_
     refine DSteps.cons (DStep.va) ?_
     refine DSteps.cons (DStep.va) ?_
     refine DSteps.cons (DStep.call rfl (by kernel_rfl) (by kernel_rfl) (by kernel_rfl) (args := [.rv (.sl 6 (l.map Update.cells)), .agg (avs (Firmware.cells f)), .agg (avs (Op51.cells o))]) (by kernel_rfl) (by kernel_rfl) (stepM_ok l f o (by first | (with_reducible first | assumption | exact Good.len (by assumption) | exact Good.fit (by assumption) | exact few_good (by assumption) | exact home_dev (by assumption) | exact Good.len (few_good (by assumption)) | exact Good.fit (few_good (by assumption))) | omega) (by first | (with_reducible first | assumption | exact Good.len (by assumption) | exact Good.fit (by assumption) | exact few_good (by assumption) | exact home_dev (by assumption) | exact Good.len (few_good (by assumption)) | exact Good.fit (few_good (by assumption))) | omega)) (by kernel_rfl) (Nat.le_of_ble_eq_true (by kernel_rfl))) ?_
     refine DSteps.cons (DStep.va) ?_
     refine DSteps.cons (DStep.va) ?_
     refine DSteps.cons (DStep.va) ?_
     refine DSteps.cons (DStep.call rfl (by kernel_rfl) (by kernel_rfl) (by kernel_rfl) (args := [.rv (.sl 6 (l.map Update.cells)), .agg (avs (Firmware.cells f)), .agg (avs (Op51.cells o))]) (by kernel_rfl) (by kernel_rfl) (rstepM_ok l f o (by first | (with_reducible first | assumption | exact Good.len (by assumption) | exact Good.fit (by assumption) | exact few_good (by assumption) | exact home_dev (by assumption) | exact Good.len (few_good (by assumption)) | exact Good.fit (few_good (by assumption))) | omega) (by first | (with_reducible first | assumption | exact Good.len (by assumption) | exact Good.fit (by assumption) | exact few_good (by assumption) | exact home_dev (by assumption) | exact Good.len (few_good (by assumption)) | exact Good.fit (few_good (by assumption))) | omega)) (by kernel_rfl) (Nat.le_of_ble_eq_true (by kernel_rfl))) ?_
     refine DSteps.cons ((DStep.call rfl (by kernel_rfl) (by kernel_rfl) (by kernel_rfl) (args := [.rv (.sl 6 ((stepM l f o).map Update.cells)), .rv (.sl 6 ((rstepM l f o).map Update.cells))]) (by kernel_rfl) (by kernel_rfl) (sameM_ok (stepM l f o) (rstepM l f o)) (by kernel_rfl) (Nat.le_of_ble_eq_true (by kernel_rfl))).cast (congrArg vb h6)) ?_
     refine DSteps.cons (DStep.va) ?_
     refine DSteps.cons (DStep.call rfl (by kernel_rfl) (by kernel_rfl) (by kernel_rfl) (args := []) (by kernel_rfl) (by kernel_rfl) (awake_ok) (by kernel_rfl) (Nat.le_of_ble_eq_true (by kernel_rfl))) ?_
     refine DSteps.cons (DStep.va) ?_
     refine DSteps.cons (DStep.va) ?_
     exact DSteps.nl
    refine AWp.ret ?_
    exact leafR (r := vb true) (by unfold lStepsM; (try rw [h5]); (try rw [h6]); first | done | kernel_rfl)
   ·
    refine AWp.dz [.rv (.sl 6 (l.map Update.cells)), .agg (avs (Firmware.cells f)), .agg (avs (Op51.cells o)), .rv (.sl 6 ((stepM l f o).map Update.cells)), .rv (.sl 6 (l.map Update.cells)), .agg (avs (Firmware.cells f)), .agg (avs (Op51.cells o)), .rv (.sl 6 ((rstepM l f o).map Update.cells)), vb false, vb false, .tuple [], vb false, vb false] 35 [(6, vb false)] [] 2 ?_ ?_
    ·
     refine DSteps.cons (DStep.va) ?_
     refine DSteps.cons (DStep.va) ?_
     refine DSteps.cons (DStep.va) ?_
     refine DSteps.cons (DStep.call rfl (by kernel_rfl) (by kernel_rfl) (by kernel_rfl) (args := [.rv (.sl 6 (l.map Update.cells)), .agg (avs (Firmware.cells f)), .agg (avs (Op51.cells o))]) (by kernel_rfl) (by kernel_rfl) (stepM_ok l f o (by first | (with_reducible first | assumption | exact Good.len (by assumption) | exact Good.fit (by assumption) | exact few_good (by assumption) | exact home_dev (by assumption) | exact Good.len (few_good (by assumption)) | exact Good.fit (few_good (by assumption))) | omega) (by first | (with_reducible first | assumption | exact Good.len (by assumption) | exact Good.fit (by assumption) | exact few_good (by assumption) | exact home_dev (by assumption) | exact Good.len (few_good (by assumption)) | exact Good.fit (few_good (by assumption))) | omega)) (by kernel_rfl) (Nat.le_of_ble_eq_true (by kernel_rfl))) ?_
     refine DSteps.cons (DStep.va) ?_
     refine DSteps.cons (DStep.va) ?_
     refine DSteps.cons (DStep.va) ?_
     refine DSteps.cons (DStep.call rfl (by kernel_rfl) (by kernel_rfl) (by kernel_rfl) (args := [.rv (.sl 6 (l.map Update.cells)), .agg (avs (Firmware.cells f)), .agg (avs (Op51.cells o))]) (by kernel_rfl) (by kernel_rfl) (rstepM_ok l f o (by first | (with_reducible first | assumption | exact Good.len (by assumption) | exact Good.fit (by assumption) | exact few_good (by assumption) | exact home_dev (by assumption) | exact Good.len (few_good (by assumption)) | exact Good.fit (few_good (by assumption))) | omega) (by first | (with_reducible first | assumption | exact Good.len (by assumption) | exact Good.fit (by assumption) | exact few_good (by assumption) | exact home_dev (by assumption) | exact Good.len (few_good (by assumption)) | exact Good.fit (few_good (by assumption))) | omega)) (by kernel_rfl) (Nat.le_of_ble_eq_true (by kernel_rfl))) ?_
     refine DSteps.cons ((DStep.call rfl (by kernel_rfl) (by kernel_rfl) (by kernel_rfl) (args := [.rv (.sl 6 ((stepM l f o).map Update.cells)), .rv (.sl 6 ((rstepM l f o).map Update.cells))]) (by kernel_rfl) (by kernel_rfl) (sameM_ok (stepM l f o) (rstepM l f o)) (by kernel_rfl) (Nat.le_of_ble_eq_true (by kernel_rfl))).cast (congrArg vb h6)) ?_
     refine DSteps.cons (DStep.va) ?_
     refine DSteps.cons (DStep.skip (by kernel_rfl)) ?_
     refine DSteps.cons (DStep.va) ?_
     refine DSteps.cons (DStep.va) ?_
     exact DSteps.nl
    refine AWp.ret ?_
    exact leafR (r := vb false) (by unfold lStepsM; (try rw [h5]); (try rw [h6]); first | done | kernel_rfl)
end Go.Proofs.Ytjgpnceaicijcaa
