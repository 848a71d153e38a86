/- Rollout: events, plans. -/
import Derived.Test.YtjgpnceaicijcaaWB3
namespace Go.Proofs.Ytjgpnceaicijcaa
open Go Go.Av Go.Hh Go.Proofs
set_option maxRecDepth 100000
set_option maxHeartbeats 4000000
theorem set_same {α : Type} {l : List α} {k : Nat} {e : α} (h : l[k]? = some e) : l.set k e = l := by
  apply List.ext_getElem?
  intro j
  rw [List.getElem?_set]
  split
  · rename_i hk
    subst hk
    split
    · exact h.symm
    · rename_i hl
      rw [List.getElem?_eq_none (by omega)]
  · rfl
theorem ownM_id (l : List Update) : ownM l = l := by
  unfold ownM ownM_L1
  refine iterN_inv (fun a => a = l) (fun k a ha => ?_) _ _ _ rfl
  subst ha
  unfold ownM_B1
  simp only
  split
  · rename_i e he
    exact set_same he
  · rfl
theorem ownM_len (l : List Update) : (ownM l).length = l.length := by rw [ownM_id]
theorem ownM_fit (l : List Update) (h : ∀ u ∈ l, u.have_.length ≤ 1000000) : ∀ u ∈ ownM l, u.have_.length ≤ 1000000 := by rw [ownM_id]; exact h
theorem findM_lt (l : List Update) (n s : Int) : findM l n s < (l.length : Int) := by
  unfold findM
  simp only [cond_eq_ite]
  have := ixFindM_lt l n
  split
  · rename_i h
    have h := of_decide_eq_true h
    rw [List.getElem?_eq_getElem (by omega)]
    simp only
    split <;> omega
  · omega
def startM_B1 (l : List Update) (f : Firmware) (now : Int) (k1_ : Nat) (x_ : (List Update)) : (List Update) :=
  match x_ with
  | (a1_0) => (match (a1_0)[k1_]? with | some e2_ => (bif (((waveM ((k1_ : Nat) : Int) == waveOfM l f) && (e2_.status == 0)) && !(completeM e2_ f)) then (((a1_0.set k1_ (⟨e2_.dev, 1, e2_.version, e2_.previous, e2_.since, e2_.have_⟩ : Update)).set k1_ (⟨e2_.dev, 1, e2_.version, e2_.previous, limitM now, e2_.have_⟩ : Update))) else (a1_0)) | none => x_)
def startM_L1 (l : List Update) (f : Firmware) (now : Int) (x_ : (List Update)) : (List Update) := iterN (startM_B1 l f now) 0 ((ownM l).length) x_
def startM (l : List Update) (f : Firmware) (now : Int) : List Update :=
  (bif (stoppedM l || decide (waveOfM l f < 0)) then (ownM l) else (startM_L1 l f now ((ownM l))))
theorem startM_ok (l : List Update) (f : Firmware) (now : Int) (hl : l.length ≤ 1000000) (hh : ∀ u ∈ l, u.have_.length ≤ 1000000) :
 ACalls Try.prog G_ 22 [.rv (.sl 6 (l.map Update.cells)), .agg (avs (Firmware.cells f)), vi now] [] 0 (fun r τ => r = .rv (.sl 6 ((startM l f now).map Update.cells)) ∧ τ = []) := by
 have hol := ownM_len l
 have hoh := ownM_fit l hh
 refine ACalls.body Try.func22 rfl 57 [(0, .rv (.sl 6 (l.map Update.cells))), (1, .agg (avs (Firmware.cells f))), (2, vi now)] ?_
 refine AWp.hz [.run 2] 57 [(0, .rv (.sl 6 (l.map Update.cells))), (2, vi now), (4, .ptr 0 0)] [(0, .box 28 (avs (Firmware.cells f)))] 1 ?_
 refine AWp.hz [.run 1, .call 41 [.rv (.sl 6 (l.map Update.cells))] (.sl 0) [(0, .row false 54 6 ((ownM l).map Update.cells))] 1 (ownM_ok l (by first | omega | assumption | exact hh _ (List.mem_of_getElem? (by assumption)) | exact hv1_ _ (List.mem_of_getElem? (by assumption))) (by first | omega | assumption | exact hh _ (List.mem_of_getElem? (by assumption)) | exact hv1_ _ (List.mem_of_getElem? (by assumption)))), .run 1] 57 [(0, .rv (.sl 6 (l.map Update.cells))), (2, vi now), (4, .ptr 0 0), (7, .sl 1)] [(1, .row false 54 6 ((ownM l).map Update.cells)), (0, .box 28 (avs (Firmware.cells f)))] 2 ?_
 refine AWp.hz [.run 2, .call 14 [.rv (.sl 6 (l.map Update.cells)), .agg (avs (Firmware.cells f))] (vi (waveOfM l f)) [] 0 (waveOfM_ok l f (by first | omega | assumption | exact hh _ (List.mem_of_getElem? (by assumption)) | exact hv1_ _ (List.mem_of_getElem? (by assumption)))), .run 1] 57 [(0, .rv (.sl 6 (l.map Update.cells))), (2, vi now), (4, .ptr 0 0), (7, .sl 1), (8, vi (waveOfM l f))] [(1, .row false 54 6 ((ownM l).map Update.cells)), (0, .box 28 (avs (Firmware.cells f)))] 2 ?_
 refine AWp.seq ?_
 refine AWp.join (Z 57 [(2, vi now), (4, .ptr 0 0), (7, .sl 1), (8, vi (waveOfM l f)), (21, vb (stoppedM l || decide (waveOfM l f < 0)))] [(1, .row false 54 6 ((ownM l).map Update.cells)), (0, .box 28 (avs (Firmware.cells f)))] 2) ?_ ?_
 ·
  refine AWp.region ?_
  refine AOps.hg [.run 1, .call 16 [.rv (.sl 6 (l.map Update.cells))] (vb (stoppedM l)) [] 0 (stoppedM_ok l), .run 1] (stoppedM l) 57 (fun b_ => [(2, vi now), (4, .ptr 0 0), (7, .sl 1), (8, vi (waveOfM l f)), (18, vb b_)]) [(1, .row false 54 6 ((ownM l).map Update.cells)), (0, .box 28 (avs (Firmware.cells f)))] 2 (fun hg1 => ?_) (fun hg1 => ?_)
  ·
   refine AOps.he [.run 3] 57 [(2, vi now), (4, .ptr 0 0), (7, .sl 1), (8, vi (waveOfM l f)), (21, vb true)] [(1, .row false 54 6 ((ownM l).map Update.cells)), (0, .box 28 (avs (Firmware.cells f)))] 2 ?_
   exact leZ (by rw [hg1]; first | done | kernel_rfl)
  ·
   refine AOps.he [.run 3] 57 [(2, vi now), (4, .ptr 0 0), (7, .sl 1), (8, vi (waveOfM l f)), (21, vb (decide (waveOfM l f < 0)))] [(1, .row false 54 6 ((ownM l).map Update.cells)), (0, .box 28 (avs (Firmware.cells f)))] 2 ?_
   exact leZ (by rw [hg1]; first | done | kernel_rfl)
 ·
  refine AWp.cnd ((stoppedM l || decide (waveOfM l f < 0))) (fun h2 => ?_) (fun h2 => ?_)
  ·
   refine AWp.hz [.run 2] 57 [(6, .sl 1)] [(1, .row false 54 6 ((ownM l).map Update.cells))] 2 ?_
   refine AWp.le (Le.frz _ 1) ?_
   refine AWp.cv 57 [(6, .rv (.sl 6 ((ownM l).map Update.cells)))] [] 2 ?_
   refine AWp.ret ?_
   exact leafR (r := .rv (.sl 6 ((ownM l).map Update.cells))) (by show (.rv (.sl 6 ((ownM l).map Update.cells)) : AV) = .rv (.sl 6 ((startM l f now).map Update.cells)); unfold startM; (try rw [h2]); first | done | kernel_rfl)
  ·
   have h2l := or_fl h2
   have h2r := or_fr h2
   have h2r' := of_decide_eq_false h2r
   refine AWp.skip ?_
   refine AWp.seq ?_
   refine AWp.hzl [.run 1, .lenR Update.cells (ownM l) 1 6, .run 1] 57 [(2, vi now), (4, .ptr 0 0), (7, .sl 1), (8, vi (waveOfM l f)), (23, .sl 1), (24, vi (((ownM l).length : Nat) : Int)), (25, vi 0)] [(1, .row false 54 6 ((ownM l).map Update.cells)), (0, .box 28 (avs (Firmware.cells f)))] 2 (fun hl => ?_)
   obtain ⟨hn3, -⟩ := hl
   refine AWp.joinE1 (A := (List Update)) (fun x_ => Z 57 [(7, .sl 1)] [(1, .row false 54 6 (x_.map Update.cells))] 2) (fun x_ => x_ = (startM_L1 l f now ((ownM l))) ∧ x_.length = (ownM l).length) ?_ ?_
   ·
    refine AWp.block ?_
    refine AWp.loop (ι := Nat × ((List Update))) (fun x_ => Z 57 [(2, vi now), (4, .ptr 0 0), (7, .sl 1), (8, vi (waveOfM l f)), (23, .sl 1), (24, vi (((ownM l).length : Nat) : Int)), (25, vi ((x_.1 : Nat) : Int))] [(1, .row false 54 6 (x_.2.map Update.cells)), (0, .box 28 (avs (Firmware.cells f)))] 2) (fun x_ => x_.1 ≤ ((ownM l).length) ∧ (startM_L1 l f now ((ownM l))) = iterN (startM_B1 l f now) x_.1 (((ownM l).length) - x_.1) x_.2 ∧ x_.2.length = (ownM l).length) (fun x_ => ((ownM l).length) - x_.1) (0, ((ownM l))) leZ ⟨Nat.zero_le _, rfl, rfl⟩ ?_
    rintro ⟨k1_, a1_0⟩ ⟨hk1_, hs1_, hl1_0⟩
    try dsimp only at hk1_
    try dsimp only at hs1_
    try dsimp only at hl1_0
    refine AWp.cv 57 [(2, vi now), (4, .ptr 0 0), (7, .sl 1), (8, vi (waveOfM l f)), (23, .sl 1), (24, vi (((ownM l).length : Nat) : Int)), (25, vi ((k1_ : Nat) : Int))] [(1, .row false 54 6 (a1_0.map Update.cells)), (0, .box 28 (avs (Firmware.cells f)))] 2 ?_
    refine AWp.hz [.run 1] 57 [(2, vi now), (4, .ptr 0 0), (7, .sl 1), (8, vi (waveOfM l f)), (23, .sl 1), (24, vi (((ownM l).length : Nat) : Int)), (25, vi ((k1_ : Nat) : Int)), (26, vb (decide (((k1_ : Nat) : Int) < (((ownM l).length : Nat) : Int))))] [(1, .row false 54 6 (a1_0.map Update.cells)), (0, .box 28 (avs (Firmware.cells f)))] 2 ?_
    refine AWp.seq ?_
    refine AWp.cnd (decide (((k1_ : Nat) : Int) < (((ownM l).length : Nat) : Int))) (fun h4 => ?_) (fun h4 => ?_)
    ·
     have h4' := of_decide_eq_true h4
     refine AWp.skip ?_
     refine AWp.seq ?_
     refine AWp.block ?_
     have hi5 : k1_ < a1_0.length := by first | omega | (simp only [List.length_set]; omega)
     obtain ⟨e2_, he2_⟩ := getEx (l := a1_0) (j := k1_) (by omega)
     refine AWp.hz [.run 1, .idxR Update.cells a1_0 1 6 k1_ hi5, .ldR Update.cells a1_0 1 6 k1_ 0 6 e2_ he2_, .run 3] 57 [(2, vi now), (4, .ptr 0 0), (7, .sl 1), (8, vi (waveOfM l f)), (9, vi ((k1_ : Nat) : Int)), (10, .ptr 2 0), (23, .sl 1), (24, vi (((ownM l).length : Nat) : Int)), (25, vi ((k1_ : Nat) : Int))] [(2, .box 54 (avs (Update.cells e2_))), (1, .row false 54 6 (a1_0.map Update.cells)), (0, .box 28 (avs (Firmware.cells f)))] 3 ?_
     refine AWp.join (Z 57 [(2, vi now), (4, .ptr 0 0), (7, .sl 1), (8, vi (waveOfM l f)), (9, vi ((k1_ : Nat) : Int)), (23, .sl 1), (24, vi (((ownM l).length : Nat) : Int)), (25, vi ((k1_ : Nat) : Int)), (44, vb (((waveM ((k1_ : Nat) : Int) == waveOfM l f) && (e2_.status == 0)) && !(completeM e2_ f)))] [(1, .row false 54 6 (a1_0.map Update.cells)), (0, .box 28 (avs (Firmware.cells f)))] 3) ?_ ?_
     ·
      refine AWp.region ?_
      refine AOps.hg [.run 1, .call 38 [vi ((k1_ : Nat) : Int)] (vi (waveM ((k1_ : Nat) : Int))) [] 0 (waveM_ok ((k1_ : Nat) : Int) (by first | omega | assumption | exact hh _ (List.mem_of_getElem? (by assumption)) | exact hv1_ _ (List.mem_of_getElem? (by assumption)))), .run 3] ((waveM ((k1_ : Nat) : Int) == waveOfM l f)) 57 (fun b_ => [(2, vi now), (4, .ptr 0 0), (7, .sl 1), (8, vi (waveOfM l f)), (9, vi ((k1_ : Nat) : Int)), (10, .ptr 2 0), (23, .sl 1), (24, vi (((ownM l).length : Nat) : Int)), (25, vi ((k1_ : Nat) : Int)), (34, vb b_)]) [(2, .box 54 (avs (Update.cells e2_))), (1, .row false 54 6 (a1_0.map Update.cells)), (0, .box 28 (avs (Firmware.cells f)))] 3 (fun hg6 => ?_) (fun hg6 => ?_)
      ·
       have hg6' := beq_t hg6
       refine AOps.hg [.run 5] ((e2_.status == 0)) 57 (fun b_ => [(2, vi now), (4, .ptr 0 0), (7, .sl 1), (8, vi (waveOfM l f)), (9, vi ((k1_ : Nat) : Int)), (10, .ptr 2 0), (23, .sl 1), (24, vi (((ownM l).length : Nat) : Int)), (25, vi ((k1_ : Nat) : Int)), (39, vb b_)]) [(2, .box 54 (avs (Update.cells e2_))), (1, .row false 54 6 (a1_0.map Update.cells)), (0, .box 28 (avs (Firmware.cells f)))] 3 (fun hg7 => ?_) (fun hg7 => ?_)
       ·
        refine AOps.he [.run 2, .call 37 [.agg (avs (Update.cells e2_)), .agg (avs (Firmware.cells f))] (vb (completeM e2_ f)) [] 0 (completeM_ok e2_ f), .run 2] 57 [(2, vi now), (4, .ptr 0 0), (7, .sl 1), (8, vi (waveOfM l f)), (9, vi ((k1_ : Nat) : Int)), (23, .sl 1), (24, vi (((ownM l).length : Nat) : Int)), (25, vi ((k1_ : Nat) : Int)), (44, vb (!(completeM e2_ f)))] [(1, .row false 54 6 (a1_0.map Update.cells)), (0, .box 28 (avs (Firmware.cells f)))] 3 ?_
        exact leZ (by rw [hg6, hg7]; first | done | kernel_rfl)
       ·
        refine AOps.he [.run 5] 57 [(2, vi now), (4, .ptr 0 0), (7, .sl 1), (8, vi (waveOfM l f)), (9, vi ((k1_ : Nat) : Int)), (23, .sl 1), (24, vi (((ownM l).length : Nat) : Int)), (25, vi ((k1_ : Nat) : Int)), (44, vb false)] [(1, .row false 54 6 (a1_0.map Update.cells)), (0, .box 28 (avs (Firmware.cells f)))] 3 ?_
        exact leZ (by rw [hg6, hg7]; first | done | kernel_rfl)
      ·
       have hg6' := beq_f hg6
       refine AOps.he [.run 10] 57 [(2, vi now), (4, .ptr 0 0), (7, .sl 1), (8, vi (waveOfM l f)), (9, vi ((k1_ : Nat) : Int)), (23, .sl 1), (24, vi (((ownM l).length : Nat) : Int)), (25, vi ((k1_ : Nat) : Int)), (44, vb false)] [(1, .row false 54 6 (a1_0.map Update.cells)), (0, .box 28 (avs (Firmware.cells f)))] 3 ?_
       exact leZ (by rw [hg6]; first | done | kernel_rfl)
     ·
      refine AWp.cnd ((((waveM ((k1_ : Nat) : Int) == waveOfM l f) && (e2_.status == 0)) && !(completeM e2_ f))) (fun h8 => ?_) (fun h8 => ?_)
      ·
       have h8l := and_tl h8
       have h8ll := and_tl h8l
       have h8ll' := beq_t h8ll
       have h8lr := and_tr h8l
       have h8r := and_tr h8
       have hi9 : k1_ < a1_0.length := by first | omega | (simp only [List.length_set]; omega)
       refine AWp.hz [.run 2, .idxR Update.cells a1_0 1 6 k1_ hi9, .run 1, .stR Update.cells a1_0 1 6 k1_ 1 e2_ (⟨e2_.dev, 1, e2_.version, e2_.previous, e2_.since, e2_.have_⟩ : Update) he2_] 57 [(2, vi now), (4, .ptr 0 0), (7, .sl 1), (8, vi (waveOfM l f)), (9, vi ((k1_ : Nat) : Int)), (23, .sl 1), (24, vi (((ownM l).length : Nat) : Int)), (25, vi ((k1_ : Nat) : Int))] [(1, .row false 54 6 ((a1_0.set k1_ (⟨e2_.dev, 1, e2_.version, e2_.previous, e2_.since, e2_.have_⟩ : Update)).map Update.cells)), (0, .box 28 (avs (Firmware.cells f)))] 3 ?_
       have hi10 : k1_ < (a1_0.set k1_ (⟨e2_.dev, 1, e2_.version, e2_.previous, e2_.since, e2_.have_⟩ : Update)).length := by first | omega | (simp only [List.length_set]; omega)
       have hse11 : ((a1_0.set k1_ (⟨e2_.dev, 1, e2_.version, e2_.previous, e2_.since, e2_.have_⟩ : Update)))[k1_]? = some (⟨e2_.dev, 1, e2_.version, e2_.previous, e2_.since, e2_.have_⟩ : Update) := List.getElem?_set_self (by first | omega | (simp only [List.length_set, List.length_append, List.length_cons, List.length_nil] at *; omega))
       refine AWp.he [.run 3, .call 42 [vi now] (vi (limitM now)) [] 0 (limitM_ok now), .idxR Update.cells (a1_0.set k1_ (⟨e2_.dev, 1, e2_.version, e2_.previous, e2_.since, e2_.have_⟩ : Update)) 1 6 k1_ hi10, .run 1, .stR Update.cells (a1_0.set k1_ (⟨e2_.dev, 1, e2_.version, e2_.previous, e2_.since, e2_.have_⟩ : Update)) 1 6 k1_ 4 (⟨e2_.dev, 1, e2_.version, e2_.previous, e2_.since, e2_.have_⟩ : Update) (⟨e2_.dev, 1, e2_.version, e2_.previous, limitM now, e2_.have_⟩ : Update) hse11] 57 [(2, vi now), (4, .ptr 0 0), (7, .sl 1), (8, vi (waveOfM l f)), (23, .sl 1), (24, vi (((ownM l).length : Nat) : Int)), (25, vi ((k1_ : Nat) : Int))] [(1, .row false 54 6 (((a1_0.set k1_ (⟨e2_.dev, 1, e2_.version, e2_.previous, e2_.since, e2_.have_⟩ : Update)).set k1_ (⟨e2_.dev, 1, e2_.version, e2_.previous, limitM now, e2_.have_⟩ : Update)).map Update.cells)), (0, .box 28 (avs (Firmware.cells f)))] 3 ?_
       refine AWp.he [.cast (vi (IntKind.i64.wrap (((k1_ : Nat) : Int) + 1))) (vi ((k1_ + 1 : Nat) : Int)) (congrArg vi (wrap_nat (by omega))), .run 1] 57 [(2, vi now), (4, .ptr 0 0), (7, .sl 1), (8, vi (waveOfM l f)), (23, .sl 1), (24, vi (((ownM l).length : Nat) : Int)), (25, vi ((k1_ + 1 : Nat) : Int))] [(1, .row false 54 6 (((a1_0.set k1_ (⟨e2_.dev, 1, e2_.version, e2_.previous, e2_.since, e2_.have_⟩ : Update)).set k1_ (⟨e2_.dev, 1, e2_.version, e2_.previous, limitM now, e2_.have_⟩ : Update)).map Update.cells)), (0, .box 28 (avs (Firmware.cells f)))] 3 ?_
       exact ⟨(k1_ + 1, (((a1_0.set k1_ (⟨e2_.dev, 1, e2_.version, e2_.previous, e2_.since, e2_.have_⟩ : Update)).set k1_ (⟨e2_.dev, 1, e2_.version, e2_.previous, limitM now, e2_.have_⟩ : Update)))), ⟨by show k1_ + 1 ≤ _; omega, iterN_next hs1_ (by omega) (by unfold startM_B1; (try dsimp only); (try simp only [he2_]); (try rw [h4]); (try rw [h8]); first | done | kernel_rfl), by first | assumption | (simp only [List.length_set, List.length_append, List.length_cons, List.length_nil]; first | done | assumption | omega) | omega⟩, by show _ - (k1_ + 1) < _ - k1_; omega, leG⟩
      ·
       refine AWp.skip ?_
       refine AWp.he [.cast (vi (IntKind.i64.wrap (((k1_ : Nat) : Int) + 1))) (vi ((k1_ + 1 : Nat) : Int)) (congrArg vi (wrap_nat (by omega))), .run 1] 57 [(2, vi now), (4, .ptr 0 0), (7, .sl 1), (8, vi (waveOfM l f)), (23, .sl 1), (24, vi (((ownM l).length : Nat) : Int)), (25, vi ((k1_ + 1 : Nat) : Int))] [(1, .row false 54 6 (a1_0.map Update.cells)), (0, .box 28 (avs (Firmware.cells f)))] 3 ?_
       exact ⟨(k1_ + 1, (a1_0)), ⟨by show k1_ + 1 ≤ _; omega, iterN_next hs1_ (by omega) (by unfold startM_B1; (try dsimp only); (try simp only [he2_]); (try rw [h4]); (try rw [h8]); first | done | kernel_rfl), by first | assumption | (simp only [List.length_set, List.length_append, List.length_cons, List.length_nil]; first | done | assumption | omega) | omega⟩, by show _ - (k1_ + 1) < _ - k1_; omega, leG⟩
    ·
     have h4' := of_decide_eq_false h4
     refine AWp.exit ?_
     have hq1_ : (a1_0) = (startM_L1 l f now ((ownM l))) := iterN_end hs1_ (by omega)
     exact ⟨(a1_0), ⟨hq1_, by first | assumption | (simp only [List.length_set, List.length_append, List.length_cons, List.length_nil]; first | done | assumption | omega) | omega⟩, leG⟩
   ·
    rintro _ ⟨rfl, hl1_0⟩
    try dsimp only at hl1_0
    refine AWp.hz [.run 2] 57 [(6, .sl 1)] [(1, .row false 54 6 ((startM_L1 l f now ((ownM l))).map Update.cells))] 2 ?_
    refine AWp.le (Le.frz _ 1) ?_
    refine AWp.cv 57 [(6, .rv (.sl 6 ((startM_L1 l f now ((ownM l))).map Update.cells)))] [] 2 ?_
    refine AWp.ret ?_
    exact leafR (r := .rv (.sl 6 ((startM_L1 l f now ((ownM l))).map Update.cells))) (by show (.rv (.sl 6 ((startM_L1 l f now ((ownM l))).map Update.cells)) : AV) = .rv (.sl 6 ((startM l f now).map Update.cells)); unfold startM; (try rw [h2]); first | done | kernel_rfl)
def haveM (l : List Update) (f : Firmware) (dev : Int) (have_ : List Bool) : List Update :=
  (bif ((fwCheckM f != 0) || decide (findM (ownM l) dev 1 < 0)) then (ownM l) else (match ((ownM l))[(findM (ownM l) dev 1).toNat]? with | some e1_ => (bif !(bContM (have_.take (List.replicate f.sums.length false).length ++ (List.replicate f.sums.length false).drop have_.length) false) then (((ownM l).set ((findM (ownM l) dev 1).toNat) (⟨e1_.dev, e1_.status, e1_.version, e1_.previous, e1_.since, (have_.take (List.replicate f.sums.length false).length ++ (List.replicate f.sums.length false).drop have_.length)⟩ : Update)).set ((findM (ownM l) dev 1).toNat) (⟨e1_.dev, 2, e1_.version, e1_.previous, e1_.since, (have_.take (List.replicate f.sums.length false).length ++ (List.replicate f.sums.length false).drop have_.length)⟩ : Update)) else ((ownM l).set ((findM (ownM l) dev 1).toNat) (⟨e1_.dev, e1_.status, e1_.version, e1_.previous, e1_.since, (have_.take (List.replicate f.sums.length false).length ++ (List.replicate f.sums.length false).drop have_.length)⟩ : Update))) | none => default))
theorem haveM_ok (l : List Update) (f : Firmware) (dev : Int) (have_ : List Bool) (hl : l.length ≤ 1000000) (hh : ∀ u ∈ l, u.have_.length ≤ 1000000) (hs : f.sums.length ≤ 1000000) :
 ACalls Try.prog G_ 24 [.rv (.sl 6 (l.map Update.cells)), .agg (avs (Firmware.cells f)), vi dev, .rv (.sl 1 (have_.map boolC))] [] 0 (fun r τ => r = .rv (.sl 6 ((haveM l f dev have_).map Update.cells)) ∧ τ = []) := by
 have hol := ownM_len l
 have hoh := ownM_fit l hh
 refine ACalls.body Try.func24 rfl 45 [(0, .rv (.sl 6 (l.map Update.cells))), (1, .agg (avs (Firmware.cells f))), (2, vi dev), (3, .rv (.sl 1 (have_.map boolC)))] ?_
 refine AWp.hz [.run 2] 45 [(0, .rv (.sl 6 (l.map Update.cells))), (2, vi dev), (3, .rv (.sl 1 (have_.map boolC))), (5, .ptr 0 0)] [(0, .box 28 (avs (Firmware.cells f)))] 1 ?_
 refine AWp.hz [.run 1, .call 41 [.rv (.sl 6 (l.map Update.cells))] (.sl 0) [(0, .row false 54 6 ((ownM l).map Update.cells))] 1 (ownM_ok l (by first | omega | assumption | exact hh _ (List.mem_of_getElem? (by assumption)) | exact hv1_ _ (List.mem_of_getElem? (by assumption))) (by first | omega | assumption | exact hh _ (List.mem_of_getElem? (by assumption)) | exact hv1_ _ (List.mem_of_getElem? (by assumption)))), .run 1] 45 [(2, vi dev), (3, .rv (.sl 1 (have_.map boolC))), (5, .ptr 0 0), (9, .sl 1)] [(1, .row false 54 6 ((ownM l).map Update.cells)), (0, .box 28 (avs (Firmware.cells f)))] 2 ?_
 refine AWp.hz [.run 2, .callB 43 [] [] [.rv (.sl 6 ((ownM l).map Update.cells)), vi dev, vi 1] (vi (findM (ownM l) dev 1)) (findM_ok (ownM l) dev 1), .run 1] 45 [(3, .rv (.sl 1 (have_.map boolC))), (5, .ptr 0 0), (9, .sl 1), (10, vi (findM (ownM l) dev 1))] [(1, .row false 54 6 ((ownM l).map Update.cells)), (0, .box 28 (avs (Firmware.cells f)))] 2 ?_
 refine AWp.seq ?_
 refine AWp.join (Z 45 [(3, .rv (.sl 1 (have_.map boolC))), (5, .ptr 0 0), (9, .sl 1), (10, vi (findM (ownM l) dev 1)), (23, vb ((fwCheckM f != 0) || decide (findM (ownM l) dev 1 < 0)))] [(1, .row false 54 6 ((ownM l).map Update.cells)), (0, .box 28 (avs (Firmware.cells f)))] 2) ?_ ?_
 ·
  refine AWp.region ?_
  refine AOps.hg [.run 1, .call 31 [.agg (avs (Firmware.cells f))] (vi (fwCheckM f)) [] 0 (fwCheckM_ok f), .run 2] ((fwCheckM f != 0)) 45 (fun b_ => [(3, .rv (.sl 1 (have_.map boolC))), (5, .ptr 0 0), (9, .sl 1), (10, vi (findM (ownM l) dev 1)), (20, vb b_)]) [(1, .row false 54 6 ((ownM l).map Update.cells)), (0, .box 28 (avs (Firmware.cells f)))] 2 (fun hg1 => ?_) (fun hg1 => ?_)
  ·
   refine AOps.he [.run 3] 45 [(3, .rv (.sl 1 (have_.map boolC))), (5, .ptr 0 0), (9, .sl 1), (10, vi (findM (ownM l) dev 1)), (23, vb true)] [(1, .row false 54 6 ((ownM l).map Update.cells)), (0, .box 28 (avs (Firmware.cells f)))] 2 ?_
   exact leZ (by rw [hg1]; first | done | kernel_rfl)
  ·
   refine AOps.he [.run 3] 45 [(3, .rv (.sl 1 (have_.map boolC))), (5, .ptr 0 0), (9, .sl 1), (10, vi (findM (ownM l) dev 1)), (23, vb (decide (findM (ownM l) dev 1 < 0)))] [(1, .row false 54 6 ((ownM l).map Update.cells)), (0, .box 28 (avs (Firmware.cells f)))] 2 ?_
   exact leZ (by rw [hg1]; first | done | kernel_rfl)
 ·
  refine AWp.cnd (((fwCheckM f != 0) || decide (findM (ownM l) dev 1 < 0))) (fun h2 => ?_) (fun h2 => ?_)
  ·
   refine AWp.hz [.run 2] 45 [(8, .sl 1)] [(1, .row false 54 6 ((ownM l).map Update.cells))] 2 ?_
   refine AWp.le (Le.frz _ 1) ?_
   refine AWp.cv 45 [(8, .rv (.sl 6 ((ownM l).map Update.cells)))] [] 2 ?_
   refine AWp.ret ?_
   exact leafR (r := .rv (.sl 6 ((ownM l).map Update.cells))) (by show (.rv (.sl 6 ((ownM l).map Update.cells)) : AV) = .rv (.sl 6 ((haveM l f dev have_).map Update.cells)); unfold haveM; (try rw [h2]); first | done | kernel_rfl)
  ·
   have h2l := or_fl h2
   have h2r := or_fr h2
   have h2r' := of_decide_eq_false h2r
   refine AWp.skip ?_
   refine AWp.rg ?_
   refine AOps.hzl [.run 2, .len intC f.sums 1] 45 [(3, .rv (.sl 1 (have_.map boolC))), (9, .sl 1), (10, vi (findM (ownM l) dev 1)), (27, vi ((f.sums.length : Nat) : Int))] [(1, .row false 54 6 ((ownM l).map Update.cells))] 2 (fun hl => ?_)
   obtain ⟨hn3, -⟩ := hl
   refine AOps.he [.mk boolC false f.sums.length f.sums.length 4 1 1 (mkSz (by first | omega | (simp; omega))), .run 1] 45 [(3, .rv (.sl 1 (have_.map boolC))), (9, .sl 1), (10, vi (findM (ownM l) dev 1)), (11, .sl 2)] [(2, .row false 4 1 ((List.replicate f.sums.length false).map boolC)), (1, .row false 54 6 ((ownM l).map Update.cells))] 3 ?_
   refine AWp.rg ?_
   refine AOps.hz [.run 2] 45 [(9, .sl 1), (10, vi (findM (ownM l) dev 1)), (11, .sl 2), (29, .sl 2), (30, .rv (.sl 1 (have_.map boolC)))] [(2, .row false 4 1 ((List.replicate f.sums.length false).map boolC)), (1, .row false 54 6 ((ownM l).map Update.cells))] 3 ?_
   refine AOps.copy boolC (List.replicate f.sums.length false) have_ 2 4 1 (.tmp 29) (.tmp 30) ?_
   refine AOps.he [] 45 [(9, .sl 1), (10, vi (findM (ownM l) dev 1)), (11, .sl 2)] [(2, .row false 4 1 ((have_.take (List.replicate f.sums.length false).length ++ (List.replicate f.sums.length false).drop have_.length).map boolC)), (1, .row false 54 6 ((ownM l).map Update.cells))] 3 ?_
   have := findM_lt (ownM l) dev 1
   have ht4 : (findM (ownM l) dev 1) = (((findM (ownM l) dev 1).toNat : Nat) : Int) := (Int.toNat_of_nonneg (by omega)).symm
   have hi5 : (findM (ownM l) dev 1).toNat < (ownM l).length := by first | omega | (simp only [List.length_set]; omega)
   obtain ⟨e1_, he1_⟩ := getEx (l := (ownM l)) (j := (findM (ownM l) dev 1).toNat) (by omega)
   refine AWp.hz [.run 3, .slot 33 (vi (findM (ownM l) dev 1)) (vi (((findM (ownM l) dev 1).toNat : Nat) : Int)) (congrArg vi ht4), .idxR Update.cells (ownM l) 1 6 ((findM (ownM l) dev 1).toNat) hi5, .run 1, .frz 2, .stR Update.cells (ownM l) 1 6 ((findM (ownM l) dev 1).toNat) 5 e1_ (⟨e1_.dev, e1_.status, e1_.version, e1_.previous, e1_.since, (have_.take (List.replicate f.sums.length false).length ++ (List.replicate f.sums.length false).drop have_.length)⟩ : Update) he1_] 45 [(9, .sl 1), (10, vi (findM (ownM l) dev 1)), (11, .rv (.sl 1 ((have_.take (List.replicate f.sums.length false).length ++ (List.replicate f.sums.length false).drop have_.length).map boolC)))] [(1, .row false 54 6 (((ownM l).set ((findM (ownM l) dev 1).toNat) (⟨e1_.dev, e1_.status, e1_.version, e1_.previous, e1_.since, (have_.take (List.replicate f.sums.length false).length ++ (List.replicate f.sums.length false).drop have_.length)⟩ : Update)).map Update.cells))] 3 ?_
   refine AWp.seq ?_
   refine AWp.hz [.run 1, .call 44 [.rv (.sl 1 ((have_.take (List.replicate f.sums.length false).length ++ (List.replicate f.sums.length false).drop have_.length).map boolC)), vb false] (vb (bContM (have_.take (List.replicate f.sums.length false).length ++ (List.replicate f.sums.length false).drop have_.length) false)) [] 0 (bContM_ok (have_.take (List.replicate f.sums.length false).length ++ (List.replicate f.sums.length false).drop have_.length) false), .run 1] 45 [(9, .sl 1), (10, vi (findM (ownM l) dev 1)), (39, vb (!(bContM (have_.take (List.replicate f.sums.length false).length ++ (List.replicate f.sums.length false).drop have_.length) false)))] [(1, .row false 54 6 (((ownM l).set ((findM (ownM l) dev 1).toNat) (⟨e1_.dev, e1_.status, e1_.version, e1_.previous, e1_.since, (have_.take (List.replicate f.sums.length false).length ++ (List.replicate f.sums.length false).drop have_.length)⟩ : Update)).map Update.cells))] 3 ?_
   refine AWp.cnd (!(bContM (have_.take (List.replicate f.sums.length false).length ++ (List.replicate f.sums.length false).drop have_.length) false)) (fun h6 => ?_) (fun h6 => ?_)
   ·
    have := findM_lt (ownM l) dev 1
    have ht7 : (findM (ownM l) dev 1) = (((findM (ownM l) dev 1).toNat : Nat) : Int) := (Int.toNat_of_nonneg (by omega)).symm
    have hi8 : (findM (ownM l) dev 1).toNat < ((ownM l).set ((findM (ownM l) dev 1).toNat) (⟨e1_.dev, e1_.status, e1_.version, e1_.previous, e1_.since, (have_.take (List.replicate f.sums.length false).length ++ (List.replicate f.sums.length false).drop have_.length)⟩ : Update)).length := by first | omega | (simp only [List.length_set]; omega)
    have hse9 : (((ownM l).set ((findM (ownM l) dev 1).toNat) (⟨e1_.dev, e1_.status, e1_.version, e1_.previous, e1_.since, (have_.take (List.replicate f.sums.length false).length ++ (List.replicate f.sums.length false).drop have_.length)⟩ : Update)))[(findM (ownM l) dev 1).toNat]? = some (⟨e1_.dev, e1_.status, e1_.version, e1_.previous, e1_.since, (have_.take (List.replicate f.sums.length false).length ++ (List.replicate f.sums.length false).drop have_.length)⟩ : Update) := List.getElem?_set_self (by first | omega | (simp only [List.length_set, List.length_append, List.length_cons, List.length_nil] at *; omega))
    refine AWp.he [.run 2, .slot 41 (vi (findM (ownM l) dev 1)) (vi (((findM (ownM l) dev 1).toNat : Nat) : Int)) (congrArg vi ht7), .idxR Update.cells ((ownM l).set ((findM (ownM l) dev 1).toNat) (⟨e1_.dev, e1_.status, e1_.version, e1_.previous, e1_.since, (have_.take (List.replicate f.sums.length false).length ++ (List.replicate f.sums.length false).drop have_.length)⟩ : Update)) 1 6 ((findM (ownM l) dev 1).toNat) hi8, .run 1, .stR Update.cells ((ownM l).set ((findM (ownM l) dev 1).toNat) (⟨e1_.dev, e1_.status, e1_.version, e1_.previous, e1_.since, (have_.take (List.replicate f.sums.length false).length ++ (List.replicate f.sums.length false).drop have_.length)⟩ : Update)) 1 6 ((findM (ownM l) dev 1).toNat) 1 (⟨e1_.dev, e1_.status, e1_.version, e1_.previous, e1_.since, (have_.take (List.replicate f.sums.length false).length ++ (List.replicate f.sums.length false).drop have_.length)⟩ : Update) (⟨e1_.dev, 2, e1_.version, e1_.previous, e1_.since, (have_.take (List.replicate f.sums.length false).length ++ (List.replicate f.sums.length false).drop have_.length)⟩ : Update) hse9] 45 [(9, .sl 1)] [(1, .row false 54 6 ((((ownM l).set ((findM (ownM l) dev 1).toNat) (⟨e1_.dev, e1_.status, e1_.version, e1_.previous, e1_.since, (have_.take (List.replicate f.sums.length false).length ++ (List.replicate f.sums.length false).drop have_.length)⟩ : Update)).set ((findM (ownM l) dev 1).toNat) (⟨e1_.dev, 2, e1_.version, e1_.previous, e1_.since, (have_.take (List.replicate f.sums.length false).length ++ (List.replicate f.sums.length false).drop have_.length)⟩ : Update)).map Update.cells))] 3 ?_
    refine AWp.hz [.run 2] 45 [(8, .sl 1)] [(1, .row false 54 6 ((((ownM l).set ((findM (ownM l) dev 1).toNat) (⟨e1_.dev, e1_.status, e1_.version, e1_.previous, e1_.since, (have_.take (List.replicate f.sums.length false).length ++ (List.replicate f.sums.length false).drop have_.length)⟩ : Update)).set ((findM (ownM l) dev 1).toNat) (⟨e1_.dev, 2, e1_.version, e1_.previous, e1_.since, (have_.take (List.replicate f.sums.length false).length ++ (List.replicate f.sums.length false).drop have_.length)⟩ : Update)).map Update.cells))] 3 ?_
    refine AWp.le (Le.frz _ 1) ?_
    refine AWp.cv 45 [(8, .rv (.sl 6 ((((ownM l).set ((findM (ownM l) dev 1).toNat) (⟨e1_.dev, e1_.status, e1_.version, e1_.previous, e1_.since, (have_.take (List.replicate f.sums.length false).length ++ (List.replicate f.sums.length false).drop have_.length)⟩ : Update)).set ((findM (ownM l) dev 1).toNat) (⟨e1_.dev, 2, e1_.version, e1_.previous, e1_.since, (have_.take (List.replicate f.sums.length false).length ++ (List.replicate f.sums.length false).drop have_.length)⟩ : Update)).map Update.cells)))] [] 3 ?_
    refine AWp.ret ?_
    exact leafR (r := .rv (.sl 6 ((((ownM l).set ((findM (ownM l) dev 1).toNat) (⟨e1_.dev, e1_.status, e1_.version, e1_.previous, e1_.since, (have_.take (List.replicate f.sums.length false).length ++ (List.replicate f.sums.length false).drop have_.length)⟩ : Update)).set ((findM (ownM l) dev 1).toNat) (⟨e1_.dev, 2, e1_.version, e1_.previous, e1_.since, (have_.take (List.replicate f.sums.length false).length ++ (List.replicate f.sums.length false).drop have_.length)⟩ : Update)).map Update.cells))) (by show (.rv (.sl 6 ((((ownM l).set ((findM (ownM l) dev 1).toNat) (⟨e1_.dev, e1_.status, e1_.version, e1_.previous, e1_.since, (have_.take (List.replicate f.sums.length false).length ++ (List.replicate f.sums.length false).drop have_.length)⟩ : Update)).set ((findM (ownM l) dev 1).toNat) (⟨e1_.dev, 2, e1_.version, e1_.previous, e1_.since, (have_.take (List.replicate f.sums.length false).length ++ (List.replicate f.sums.length false).drop have_.length)⟩ : Update)).map Update.cells)) : AV) = .rv (.sl 6 ((haveM l f dev have_).map Update.cells)); unfold haveM; (try simp only [he1_]); (try rw [h2]); (try rw [h6]); first | done | kernel_rfl)
   ·
    refine AWp.skip ?_
    refine AWp.hz [.run 2] 45 [(8, .sl 1)] [(1, .row false 54 6 (((ownM l).set ((findM (ownM l) dev 1).toNat) (⟨e1_.dev, e1_.status, e1_.version, e1_.previous, e1_.since, (have_.take (List.replicate f.sums.length false).length ++ (List.replicate f.sums.length false).drop have_.length)⟩ : Update)).map Update.cells))] 3 ?_
    refine AWp.le (Le.frz _ 1) ?_
    refine AWp.cv 45 [(8, .rv (.sl 6 (((ownM l).set ((findM (ownM l) dev 1).toNat) (⟨e1_.dev, e1_.status, e1_.version, e1_.previous, e1_.since, (have_.take (List.replicate f.sums.length false).length ++ (List.replicate f.sums.length false).drop have_.length)⟩ : Update)).map Update.cells)))] [] 3 ?_
    refine AWp.ret ?_
    exact leafR (r := .rv (.sl 6 (((ownM l).set ((findM (ownM l) dev 1).toNat) (⟨e1_.dev, e1_.status, e1_.version, e1_.previous, e1_.since, (have_.take (List.replicate f.sums.length false).length ++ (List.replicate f.sums.length false).drop have_.length)⟩ : Update)).map Update.cells))) (by show (.rv (.sl 6 (((ownM l).set ((findM (ownM l) dev 1).toNat) (⟨e1_.dev, e1_.status, e1_.version, e1_.previous, e1_.since, (have_.take (List.replicate f.sums.length false).length ++ (List.replicate f.sums.length false).drop have_.length)⟩ : Update)).map Update.cells)) : AV) = .rv (.sl 6 ((haveM l f dev have_).map Update.cells)); unfold haveM; (try simp only [he1_]); (try rw [h2]); (try rw [h6]); first | done | kernel_rfl)
def installM (l : List Update) (f : Firmware) (dev now : Int) : List Update :=
  (bif ((fwCheckM f != 0) || decide (findM (ownM l) dev 2 < 0)) then (ownM l) else (match ((ownM l))[(findM (ownM l) dev 2).toNat]? with | some e1_ => (((((ownM l).set ((findM (ownM l) dev 2).toNat) (⟨e1_.dev, 3, e1_.version, e1_.previous, e1_.since, e1_.have_⟩ : Update)).set ((findM (ownM l) dev 2).toNat) (⟨e1_.dev, 3, e1_.version, e1_.version, e1_.since, e1_.have_⟩ : Update)).set ((findM (ownM l) dev 2).toNat) (⟨e1_.dev, 3, f.version, e1_.version, e1_.since, e1_.have_⟩ : Update)).set ((findM (ownM l) dev 2).toNat) (⟨e1_.dev, 3, f.version, e1_.version, limitM now, e1_.have_⟩ : Update)) | none => default))
theorem installM_ok (l : List Update) (f : Firmware) (dev now : Int) (hl : l.length ≤ 1000000) (hh : ∀ u ∈ l, u.have_.length ≤ 1000000) :
 ACalls Try.prog G_ 23 [.rv (.sl 6 (l.map Update.cells)), .agg (avs (Firmware.cells f)), vi dev, vi now] [] 0 (fun r τ => r = .rv (.sl 6 ((installM l f dev now).map Update.cells)) ∧ τ = []) := by
 have hol := ownM_len l
 have hoh := ownM_fit l hh
 refine ACalls.body Try.func23 rfl 49 [(0, .rv (.sl 6 (l.map Update.cells))), (1, .agg (avs (Firmware.cells f))), (2, vi dev), (3, vi now)] ?_
 refine AWp.hz [.run 2] 49 [(0, .rv (.sl 6 (l.map Update.cells))), (2, vi dev), (3, vi now), (5, .ptr 0 0)] [(0, .box 28 (avs (Firmware.cells f)))] 1 ?_
 refine AWp.hz [.run 1, .call 41 [.rv (.sl 6 (l.map Update.cells))] (.sl 0) [(0, .row false 54 6 ((ownM l).map Update.cells))] 1 (ownM_ok l (by first | omega | assumption | exact hh _ (List.mem_of_getElem? (by assumption)) | exact hv1_ _ (List.mem_of_getElem? (by assumption))) (by first | omega | assumption | exact hh _ (List.mem_of_getElem? (by assumption)) | exact hv1_ _ (List.mem_of_getElem? (by assumption)))), .run 1] 49 [(2, vi dev), (3, vi now), (5, .ptr 0 0), (9, .sl 1)] [(1, .row false 54 6 ((ownM l).map Update.cells)), (0, .box 28 (avs (Firmware.cells f)))] 2 ?_
 refine AWp.hz [.run 2, .callB 43 [] [] [.rv (.sl 6 ((ownM l).map Update.cells)), vi dev, vi 2] (vi (findM (ownM l) dev 2)) (findM_ok (ownM l) dev 2), .run 1] 49 [(3, vi now), (5, .ptr 0 0), (9, .sl 1), (10, vi (findM (ownM l) dev 2))] [(1, .row false 54 6 ((ownM l).map Update.cells)), (0, .box 28 (avs (Firmware.cells f)))] 2 ?_
 refine AWp.seq ?_
 refine AWp.join (Z 49 [(3, vi now), (5, .ptr 0 0), (9, .sl 1), (10, vi (findM (ownM l) dev 2)), (23, vb ((fwCheckM f != 0) || decide (findM (ownM l) dev 2 < 0)))] [(1, .row false 54 6 ((ownM l).map Update.cells)), (0, .box 28 (avs (Firmware.cells f)))] 2) ?_ ?_
 ·
  refine AWp.region ?_
  refine AOps.hg [.run 1, .call 31 [.agg (avs (Firmware.cells f))] (vi (fwCheckM f)) [] 0 (fwCheckM_ok f), .run 2] ((fwCheckM f != 0)) 49 (fun b_ => [(3, vi now), (5, .ptr 0 0), (9, .sl 1), (10, vi (findM (ownM l) dev 2)), (20, vb b_)]) [(1, .row false 54 6 ((ownM l).map Update.cells)), (0, .box 28 (avs (Firmware.cells f)))] 2 (fun hg1 => ?_) (fun hg1 => ?_)
  ·
   refine AOps.he [.run 3] 49 [(3, vi now), (5, .ptr 0 0), (9, .sl 1), (10, vi (findM (ownM l) dev 2)), (23, vb true)] [(1, .row false 54 6 ((ownM l).map Update.cells)), (0, .box 28 (avs (Firmware.cells f)))] 2 ?_
   exact leZ (by rw [hg1]; first | done | kernel_rfl)
  ·
   refine AOps.he [.run 3] 49 [(3, vi now), (5, .ptr 0 0), (9, .sl 1), (10, vi (findM (ownM l) dev 2)), (23, vb (decide (findM (ownM l) dev 2 < 0)))] [(1, .row false 54 6 ((ownM l).map Update.cells)), (0, .box 28 (avs (Firmware.cells f)))] 2 ?_
   exact leZ (by rw [hg1]; first | done | kernel_rfl)
 ·
  refine AWp.cnd (((fwCheckM f != 0) || decide (findM (ownM l) dev 2 < 0))) (fun h2 => ?_) (fun h2 => ?_)
  ·
   refine AWp.hz [.run 2] 49 [(8, .sl 1)] [(1, .row false 54 6 ((ownM l).map Update.cells))] 2 ?_
   refine AWp.le (Le.frz _ 1) ?_
   refine AWp.cv 49 [(8, .rv (.sl 6 ((ownM l).map Update.cells)))] [] 2 ?_
   refine AWp.ret ?_
   exact leafR (r := .rv (.sl 6 ((ownM l).map Update.cells))) (by show (.rv (.sl 6 ((ownM l).map Update.cells)) : AV) = .rv (.sl 6 ((installM l f dev now).map Update.cells)); unfold installM; (try rw [h2]); first | done | kernel_rfl)
  ·
   have h2l := or_fl h2
   have h2r := or_fr h2
   have h2r' := of_decide_eq_false h2r
   refine AWp.skip ?_
   have := findM_lt (ownM l) dev 2
   have ht3 : (findM (ownM l) dev 2) = (((findM (ownM l) dev 2).toNat : Nat) : Int) := (Int.toNat_of_nonneg (by omega)).symm
   have hi4 : (findM (ownM l) dev 2).toNat < (ownM l).length := by first | omega | (simp only [List.length_set]; omega)
   refine AWp.hz [.run 2, .slot 26 (vi (findM (ownM l) dev 2)) (vi (((findM (ownM l) dev 2).toNat : Nat) : Int)) (congrArg vi ht3), .idxR Update.cells (ownM l) 1 6 ((findM (ownM l) dev 2).toNat) hi4, .run 1] 49 [(3, vi now), (5, .ptr 0 0), (9, .sl 1), (11, .eptr 1 ((findM (ownM l) dev 2).toNat) 0)] [(1, .row false 54 6 ((ownM l).map Update.cells)), (0, .box 28 (avs (Firmware.cells f)))] 2 ?_
   obtain ⟨e1_, he1_⟩ := getEx (l := (ownM l)) (j := (findM (ownM l) dev 2).toNat) (by omega)
   have hse5 : (((ownM l).set ((findM (ownM l) dev 2).toNat) (⟨e1_.dev, 3, e1_.version, e1_.previous, e1_.since, e1_.have_⟩ : Update)))[(findM (ownM l) dev 2).toNat]? = some (⟨e1_.dev, 3, e1_.version, e1_.previous, e1_.since, e1_.have_⟩ : Update) := List.getElem?_set_self (by first | omega | (simp only [List.length_set, List.length_append, List.length_cons, List.length_nil] at *; omega))
   have hse6 : ((((ownM l).set ((findM (ownM l) dev 2).toNat) (⟨e1_.dev, 3, e1_.version, e1_.previous, e1_.since, e1_.have_⟩ : Update)).set ((findM (ownM l) dev 2).toNat) (⟨e1_.dev, 3, e1_.version, e1_.version, e1_.since, e1_.have_⟩ : Update)))[(findM (ownM l) dev 2).toNat]? = some (⟨e1_.dev, 3, e1_.version, e1_.version, e1_.since, e1_.have_⟩ : Update) := List.getElem?_set_self (by first | omega | (simp only [List.length_set, List.length_append, List.length_cons, List.length_nil] at *; omega))
   have hse7 : (((((ownM l).set ((findM (ownM l) dev 2).toNat) (⟨e1_.dev, 3, e1_.version, e1_.previous, e1_.since, e1_.have_⟩ : Update)).set ((findM (ownM l) dev 2).toNat) (⟨e1_.dev, 3, e1_.version, e1_.version, e1_.since, e1_.have_⟩ : Update)).set ((findM (ownM l) dev 2).toNat) (⟨e1_.dev, 3, f.version, e1_.version, e1_.since, e1_.have_⟩ : Update)))[(findM (ownM l) dev 2).toNat]? = some (⟨e1_.dev, 3, f.version, e1_.version, e1_.since, e1_.have_⟩ : Update) := List.getElem?_set_self (by first | omega | (simp only [List.length_set, List.length_append, List.length_cons, List.length_nil] at *; omega))
   refine AWp.seq ?_
   refine AWp.cut (fuel := 0) (m := [true, true, true, true, true, true, true, true, true, true, true, true, true, true, true, true, true, true, true, true, true, true, true, true]) (s := Z 49 [(9, .sl 1)] [(1, .row false 54 6 ((((((ownM l).set ((findM (ownM l) dev 2).toNat) (⟨e1_.dev, 3, e1_.version, e1_.previous, e1_.since, e1_.have_⟩ : Update)).set ((findM (ownM l) dev 2).toNat) (⟨e1_.dev, 3, e1_.version, e1_.version, e1_.since, e1_.have_⟩ : Update)).set ((findM (ownM l) dev 2).toNat) (⟨e1_.dev, 3, f.version, e1_.version, e1_.since, e1_.have_⟩ : Update)).set ((findM (ownM l) dev 2).toNat) (⟨e1_.dev, 3, f.version, e1_.version, limitM now, e1_.have_⟩ : Update)).map Update.cells))] 2) (AD.done ?_) (fun hd12 => ?_)
   ·
    refine AWp.hz [.run 2] 49 [(8, .sl 1)] [(1, .row false 54 6 ((((((ownM l).set ((findM (ownM l) dev 2).toNat) (⟨e1_.dev, 3, e1_.version, e1_.previous, e1_.since, e1_.have_⟩ : Update)).set ((findM (ownM l) dev 2).toNat) (⟨e1_.dev, 3, e1_.version, e1_.version, e1_.since, e1_.have_⟩ : Update)).set ((findM (ownM l) dev 2).toNat) (⟨e1_.dev, 3, f.version, e1_.version, e1_.since, e1_.have_⟩ : Update)).set ((findM (ownM l) dev 2).toNat) (⟨e1_.dev, 3, f.version, e1_.version, limitM now, e1_.have_⟩ : Update)).map Update.cells))] 2 ?_
    refine AWp.le (Le.frz _ 1) ?_
    refine AWp.cv 49 [(8, .rv (.sl 6 ((((((ownM l).set ((findM (ownM l) dev 2).toNat) (⟨e1_.dev, 3, e1_.version, e1_.previous, e1_.since, e1_.have_⟩ : Update)).set ((findM (ownM l) dev 2).toNat) (⟨e1_.dev, 3, e1_.version, e1_.version, e1_.since, e1_.have_⟩ : Update)).set ((findM (ownM l) dev 2).toNat) (⟨e1_.dev, 3, f.version, e1_.version, e1_.since, e1_.have_⟩ : Update)).set ((findM (ownM l) dev 2).toNat) (⟨e1_.dev, 3, f.version, e1_.version, limitM now, e1_.have_⟩ : Update)).map Update.cells)))] [] 2 ?_
    refine AWp.ret ?_
    exact leafR (r := .rv (.sl 6 ((((((ownM l).set ((findM (ownM l) dev 2).toNat) (⟨e1_.dev, 3, e1_.version, e1_.previous, e1_.since, e1_.have_⟩ : Update)).set ((findM (ownM l) dev 2).toNat) (⟨e1_.dev, 3, e1_.version, e1_.version, e1_.since, e1_.have_⟩ : Update)).set ((findM (ownM l) dev 2).toNat) (⟨e1_.dev, 3, f.version, e1_.version, e1_.since, e1_.have_⟩ : Update)).set ((findM (ownM l) dev 2).toNat) (⟨e1_.dev, 3, f.version, e1_.version, limitM now, e1_.have_⟩ : Update)).map Update.cells))) (by show (.rv (.sl 6 ((((((ownM l).set ((findM (ownM l) dev 2).toNat) (⟨e1_.dev, 3, e1_.version, e1_.previous, e1_.since, e1_.have_⟩ : Update)).set ((findM (ownM l) dev 2).toNat) (⟨e1_.dev, 3, e1_.version, e1_.version, e1_.since, e1_.have_⟩ : Update)).set ((findM (ownM l) dev 2).toNat) (⟨e1_.dev, 3, f.version, e1_.version, e1_.since, e1_.have_⟩ : Update)).set ((findM (ownM l) dev 2).toNat) (⟨e1_.dev, 3, f.version, e1_.version, limitM now, e1_.have_⟩ : Update)).map Update.cells)) : AV) = .rv (.sl 6 ((installM l f dev now).map Update.cells)); unfold installM; (try simp only [he1_]); (try rw [h2]); first | done | kernel_rfl)
   refine AWp.cut (fuel := 1) (m := [true, true, true, true, true, true, true, true, true, true, true, true, true, true, true, true, true, true, true, true, true, true, true, false]) (s := Z 49 [(9, .sl 1), (39, vi (limitM now)), (47, .eptr 1 ((findM (ownM l) dev 2).toNat) 4)] [(1, .row false 54 6 (((((ownM l).set ((findM (ownM l) dev 2).toNat) (⟨e1_.dev, 3, e1_.version, e1_.previous, e1_.since, e1_.have_⟩ : Update)).set ((findM (ownM l) dev 2).toNat) (⟨e1_.dev, 3, e1_.version, e1_.version, e1_.since, e1_.have_⟩ : Update)).set ((findM (ownM l) dev 2).toNat) (⟨e1_.dev, 3, f.version, e1_.version, e1_.since, e1_.have_⟩ : Update)).map Update.cells))] 2) (AD.step 23 [] (ADs.cons _ rfl ?_ hd12 (ADs.nil))) (fun hd13 => ?_)
   ·
    have hse11 : (((((ownM l).set ((findM (ownM l) dev 2).toNat) (⟨e1_.dev, 3, e1_.version, e1_.previous, e1_.since, e1_.have_⟩ : Update)).set ((findM (ownM l) dev 2).toNat) (⟨e1_.dev, 3, e1_.version, e1_.version, e1_.since, e1_.have_⟩ : Update)).set ((findM (ownM l) dev 2).toNat) (⟨e1_.dev, 3, f.version, e1_.version, e1_.since, e1_.have_⟩ : Update)))[(findM (ownM l) dev 2).toNat]? = some (⟨e1_.dev, 3, f.version, e1_.version, e1_.since, e1_.have_⟩ : Update) := List.getElem?_set_self (by first | omega | (simp only [List.length_set, List.length_append, List.length_cons, List.length_nil] at *; omega))
    refine AOps.he [.stR Update.cells ((((ownM l).set ((findM (ownM l) dev 2).toNat) (⟨e1_.dev, 3, e1_.version, e1_.previous, e1_.since, e1_.have_⟩ : Update)).set ((findM (ownM l) dev 2).toNat) (⟨e1_.dev, 3, e1_.version, e1_.version, e1_.since, e1_.have_⟩ : Update)).set ((findM (ownM l) dev 2).toNat) (⟨e1_.dev, 3, f.version, e1_.version, e1_.since, e1_.have_⟩ : Update)) 1 6 ((findM (ownM l) dev 2).toNat) 4 (⟨e1_.dev, 3, f.version, e1_.version, e1_.since, e1_.have_⟩ : Update) (⟨e1_.dev, 3, f.version, e1_.version, limitM now, e1_.have_⟩ : Update) hse11] 49 [(9, .sl 1)] [(1, .row false 54 6 ((((((ownM l).set ((findM (ownM l) dev 2).toNat) (⟨e1_.dev, 3, e1_.version, e1_.previous, e1_.since, e1_.have_⟩ : Update)).set ((findM (ownM l) dev 2).toNat) (⟨e1_.dev, 3, e1_.version, e1_.version, e1_.since, e1_.have_⟩ : Update)).set ((findM (ownM l) dev 2).toNat) (⟨e1_.dev, 3, f.version, e1_.version, e1_.since, e1_.have_⟩ : Update)).set ((findM (ownM l) dev 2).toNat) (⟨e1_.dev, 3, f.version, e1_.version, limitM now, e1_.have_⟩ : Update)).map Update.cells))] 2 ?_
    exact ⟨rfl, rfl⟩
   refine AWp.cut (fuel := 2) (m := [true, true, true, true, true, true, true, true, true, true, true, true, true, true, true, true, true, true, true, true, true, true, false, false]) (s := Z 49 [(9, .sl 1), (39, vi (limitM now)), (46, .eptr 1 ((findM (ownM l) dev 2).toNat) 0)] [(1, .row false 54 6 (((((ownM l).set ((findM (ownM l) dev 2).toNat) (⟨e1_.dev, 3, e1_.version, e1_.previous, e1_.since, e1_.have_⟩ : Update)).set ((findM (ownM l) dev 2).toNat) (⟨e1_.dev, 3, e1_.version, e1_.version, e1_.since, e1_.have_⟩ : Update)).set ((findM (ownM l) dev 2).toNat) (⟨e1_.dev, 3, f.version, e1_.version, e1_.since, e1_.have_⟩ : Update)).map Update.cells))] 2) (AD.tk 22 _ _ _ _ hd13) (fun hd14 => ?_)
   refine AWp.cut (fuel := 3) (m := [true, true, true, true, true, true, true, true, true, true, true, true, true, true, true, true, true, true, true, true, true, false, false, false]) (s := Z 49 [(9, .sl 1), (31, .eptr 1 ((findM (ownM l) dev 2).toNat) 0), (39, vi (limitM now))] [(1, .row false 54 6 (((((ownM l).set ((findM (ownM l) dev 2).toNat) (⟨e1_.dev, 3, e1_.version, e1_.previous, e1_.since, e1_.have_⟩ : Update)).set ((findM (ownM l) dev 2).toNat) (⟨e1_.dev, 3, e1_.version, e1_.version, e1_.since, e1_.have_⟩ : Update)).set ((findM (ownM l) dev 2).toNat) (⟨e1_.dev, 3, f.version, e1_.version, e1_.since, e1_.have_⟩ : Update)).map Update.cells))] 2) (AD.tk 21 _ _ _ _ hd14) (fun hd15 => ?_)
   refine AWp.cut (fuel := 4) (m := [true, true, true, true, true, true, true, true, true, true, true, true, true, true, true, true, true, true, true, true, false, false, false, false]) (s := Z 49 [(9, .sl 1), (31, .eptr 1 ((findM (ownM l) dev 2).toNat) 0), (37, vi f.version), (39, vi (limitM now)), (45, .eptr 1 ((findM (ownM l) dev 2).toNat) 2)] [(1, .row false 54 6 ((((ownM l).set ((findM (ownM l) dev 2).toNat) (⟨e1_.dev, 3, e1_.version, e1_.previous, e1_.since, e1_.have_⟩ : Update)).set ((findM (ownM l) dev 2).toNat) (⟨e1_.dev, 3, e1_.version, e1_.version, e1_.since, e1_.have_⟩ : Update)).map Update.cells))] 2) (AD.step 20 [] (ADs.cons _ rfl ?_ hd15 (ADs.nil))) (fun hd16 => ?_)
   ·
    have hse10 : ((((ownM l).set ((findM (ownM l) dev 2).toNat) (⟨e1_.dev, 3, e1_.version, e1_.previous, e1_.since, e1_.have_⟩ : Update)).set ((findM (ownM l) dev 2).toNat) (⟨e1_.dev, 3, e1_.version, e1_.version, e1_.since, e1_.have_⟩ : Update)))[(findM (ownM l) dev 2).toNat]? = some (⟨e1_.dev, 3, e1_.version, e1_.version, e1_.since, e1_.have_⟩ : Update) := List.getElem?_set_self (by first | omega | (simp only [List.length_set, List.length_append, List.length_cons, List.length_nil] at *; omega))
    refine AOps.he [.stR Update.cells (((ownM l).set ((findM (ownM l) dev 2).toNat) (⟨e1_.dev, 3, e1_.version, e1_.previous, e1_.since, e1_.have_⟩ : Update)).set ((findM (ownM l) dev 2).toNat) (⟨e1_.dev, 3, e1_.version, e1_.version, e1_.since, e1_.have_⟩ : Update)) 1 6 ((findM (ownM l) dev 2).toNat) 2 (⟨e1_.dev, 3, e1_.version, e1_.version, e1_.since, e1_.have_⟩ : Update) (⟨e1_.dev, 3, f.version, e1_.version, e1_.since, e1_.have_⟩ : Update) hse10] 49 [(9, .sl 1), (31, .eptr 1 ((findM (ownM l) dev 2).toNat) 0), (39, vi (limitM now))] [(1, .row false 54 6 (((((ownM l).set ((findM (ownM l) dev 2).toNat) (⟨e1_.dev, 3, e1_.version, e1_.previous, e1_.since, e1_.have_⟩ : Update)).set ((findM (ownM l) dev 2).toNat) (⟨e1_.dev, 3, e1_.version, e1_.version, e1_.since, e1_.have_⟩ : Update)).set ((findM (ownM l) dev 2).toNat) (⟨e1_.dev, 3, f.version, e1_.version, e1_.since, e1_.have_⟩ : Update)).map Update.cells))] 2 ?_
    exact ⟨rfl, rfl⟩
   refine AWp.cut (fuel := 5) (m := [true, true, true, true, true, true, true, true, true, true, true, true, true, true, true, true, true, true, true, false, false, false, false, false]) (s := Z 49 [(9, .sl 1), (31, .eptr 1 ((findM (ownM l) dev 2).toNat) 0), (37, vi f.version), (39, vi (limitM now)), (44, .eptr 1 ((findM (ownM l) dev 2).toNat) 0)] [(1, .row false 54 6 ((((ownM l).set ((findM (ownM l) dev 2).toNat) (⟨e1_.dev, 3, e1_.version, e1_.previous, e1_.since, e1_.have_⟩ : Update)).set ((findM (ownM l) dev 2).toNat) (⟨e1_.dev, 3, e1_.version, e1_.version, e1_.since, e1_.have_⟩ : Update)).map Update.cells))] 2) (AD.tk 19 _ _ _ _ hd16) (fun hd17 => ?_)
   refine AWp.cut (fuel := 6) (m := [true, true, true, true, true, true, true, true, true, true, true, true, true, true, true, true, true, true, false, false, false, false, false, false]) (s := Z 49 [(9, .sl 1), (30, .eptr 1 ((findM (ownM l) dev 2).toNat) 0), (31, .eptr 1 ((findM (ownM l) dev 2).toNat) 0), (37, vi f.version), (39, vi (limitM now))] [(1, .row false 54 6 ((((ownM l).set ((findM (ownM l) dev 2).toNat) (⟨e1_.dev, 3, e1_.version, e1_.previous, e1_.since, e1_.have_⟩ : Update)).set ((findM (ownM l) dev 2).toNat) (⟨e1_.dev, 3, e1_.version, e1_.version, e1_.since, e1_.have_⟩ : Update)).map Update.cells))] 2) (AD.tk 18 _ _ _ _ hd17) (fun hd18 => ?_)
   refine AWp.cut (fuel := 7) (m := [true, true, true, true, true, true, true, true, true, true, true, true, true, true, true, true, true, false, false, false, false, false, false, false]) (s := Z 49 [(9, .sl 1), (30, .eptr 1 ((findM (ownM l) dev 2).toNat) 0), (31, .eptr 1 ((findM (ownM l) dev 2).toNat) 0), (35, vi e1_.version), (37, vi f.version), (39, vi (limitM now)), (43, .eptr 1 ((findM (ownM l) dev 2).toNat) 3)] [(1, .row false 54 6 (((ownM l).set ((findM (ownM l) dev 2).toNat) (⟨e1_.dev, 3, e1_.version, e1_.previous, e1_.since, e1_.have_⟩ : Update)).map Update.cells))] 2) (AD.step 17 [] (ADs.cons _ rfl ?_ hd18 (ADs.nil))) (fun hd19 => ?_)
   ·
    have hse9 : (((ownM l).set ((findM (ownM l) dev 2).toNat) (⟨e1_.dev, 3, e1_.version, e1_.previous, e1_.since, e1_.have_⟩ : Update)))[(findM (ownM l) dev 2).toNat]? = some (⟨e1_.dev, 3, e1_.version, e1_.previous, e1_.since, e1_.have_⟩ : Update) := List.getElem?_set_self (by first | omega | (simp only [List.length_set, List.length_append, List.length_cons, List.length_nil] at *; omega))
    refine AOps.he [.stR Update.cells ((ownM l).set ((findM (ownM l) dev 2).toNat) (⟨e1_.dev, 3, e1_.version, e1_.previous, e1_.since, e1_.have_⟩ : Update)) 1 6 ((findM (ownM l) dev 2).toNat) 3 (⟨e1_.dev, 3, e1_.version, e1_.previous, e1_.since, e1_.have_⟩ : Update) (⟨e1_.dev, 3, e1_.version, e1_.version, e1_.since, e1_.have_⟩ : Update) hse9] 49 [(9, .sl 1), (30, .eptr 1 ((findM (ownM l) dev 2).toNat) 0), (31, .eptr 1 ((findM (ownM l) dev 2).toNat) 0), (37, vi f.version), (39, vi (limitM now))] [(1, .row false 54 6 ((((ownM l).set ((findM (ownM l) dev 2).toNat) (⟨e1_.dev, 3, e1_.version, e1_.previous, e1_.since, e1_.have_⟩ : Update)).set ((findM (ownM l) dev 2).toNat) (⟨e1_.dev, 3, e1_.version, e1_.version, e1_.since, e1_.have_⟩ : Update)).map Update.cells))] 2 ?_
    exact ⟨rfl, rfl⟩
   refine AWp.cut (fuel := 7) (m := [true, true, true, true, true, true, true, true, true, false, true, true, true, true, true, true, true, true, false, false, false, false, false, false]) (s := Z 49 [(9, .sl 1), (30, .eptr 1 ((findM (ownM l) dev 2).toNat) 0), (31, .eptr 1 ((findM (ownM l) dev 2).toNat) 0), (36, .ptr 0 1), (39, vi (limitM now))] [(0, .box 28 (avs (Firmware.cells f))), (1, .row false 54 6 ((((ownM l).set ((findM (ownM l) dev 2).toNat) (⟨e1_.dev, 3, e1_.version, e1_.previous, e1_.since, e1_.have_⟩ : Update)).set ((findM (ownM l) dev 2).toNat) (⟨e1_.dev, 3, e1_.version, e1_.version, e1_.since, e1_.have_⟩ : Update)).map Update.cells))] 2) (AD.step 9 [] (ADs.cons _ rfl (AOps.he [.run 1] _ _ _ _ ⟨rfl, rfl⟩) hd18 (ADs.nil))) (fun hd20 => ?_)
   refine AWp.cut (fuel := 8) (m := [true, true, true, true, true, true, true, true, true, true, true, true, true, true, true, true, false, false, false, false, false, false, false, false]) (s := Z 49 [(9, .sl 1), (30, .eptr 1 ((findM (ownM l) dev 2).toNat) 0), (31, .eptr 1 ((findM (ownM l) dev 2).toNat) 0), (35, vi e1_.version), (37, vi f.version), (39, vi (limitM now)), (42, .eptr 1 ((findM (ownM l) dev 2).toNat) 0)] [(1, .row false 54 6 (((ownM l).set ((findM (ownM l) dev 2).toNat) (⟨e1_.dev, 3, e1_.version, e1_.previous, e1_.since, e1_.have_⟩ : Update)).map Update.cells))] 2) (AD.tk 16 _ _ _ _ hd19) (fun hd21 => ?_)
   refine AWp.cut (fuel := 8) (m := [true, true, true, true, true, true, true, true, true, false, true, true, true, true, true, true, true, false, false, false, false, false, false, false]) (s := Z 49 [(9, .sl 1), (30, .eptr 1 ((findM (ownM l) dev 2).toNat) 0), (31, .eptr 1 ((findM (ownM l) dev 2).toNat) 0), (35, vi e1_.version), (36, .ptr 0 1), (39, vi (limitM now)), (43, .eptr 1 ((findM (ownM l) dev 2).toNat) 3)] [(0, .box 28 (avs (Firmware.cells f))), (1, .row false 54 6 (((ownM l).set ((findM (ownM l) dev 2).toNat) (⟨e1_.dev, 3, e1_.version, e1_.previous, e1_.since, e1_.have_⟩ : Update)).map Update.cells))] 2) (AD.step 9 [17] (ADs.cons _ rfl (AOps.he [.run 1] _ _ _ _ ⟨rfl, rfl⟩) hd19 (ADs.cons _ rfl ?_ hd20 (ADs.nil)))) (fun hd22 => ?_)
   ·
    have hse8 : (((ownM l).set ((findM (ownM l) dev 2).toNat) (⟨e1_.dev, 3, e1_.version, e1_.previous, e1_.since, e1_.have_⟩ : Update)))[(findM (ownM l) dev 2).toNat]? = some (⟨e1_.dev, 3, e1_.version, e1_.previous, e1_.since, e1_.have_⟩ : Update) := List.getElem?_set_self (by first | omega | (simp only [List.length_set, List.length_append, List.length_cons, List.length_nil] at *; omega))
    refine AOps.he [.stR Update.cells ((ownM l).set ((findM (ownM l) dev 2).toNat) (⟨e1_.dev, 3, e1_.version, e1_.previous, e1_.since, e1_.have_⟩ : Update)) 1 6 ((findM (ownM l) dev 2).toNat) 3 (⟨e1_.dev, 3, e1_.version, e1_.previous, e1_.since, e1_.have_⟩ : Update) (⟨e1_.dev, 3, e1_.version, e1_.version, e1_.since, e1_.have_⟩ : Update) hse8] 49 [(9, .sl 1), (30, .eptr 1 ((findM (ownM l) dev 2).toNat) 0), (31, .eptr 1 ((findM (ownM l) dev 2).toNat) 0), (36, .ptr 0 1), (39, vi (limitM now))] [(0, .box 28 (avs (Firmware.cells f))), (1, .row false 54 6 ((((ownM l).set ((findM (ownM l) dev 2).toNat) (⟨e1_.dev, 3, e1_.version, e1_.previous, e1_.since, e1_.have_⟩ : Update)).set ((findM (ownM l) dev 2).toNat) (⟨e1_.dev, 3, e1_.version, e1_.version, e1_.since, e1_.have_⟩ : Update)).map Update.cells))] 2 ?_
    exact ⟨rfl, rfl⟩
   refine AWp.cut (fuel := 9) (m := [true, true, true, true, true, true, true, true, true, true, true, true, true, true, true, false, false, false, false, false, false, false, false, false]) (s := Z 49 [(9, .sl 1), (29, .eptr 1 ((findM (ownM l) dev 2).toNat) 0), (30, .eptr 1 ((findM (ownM l) dev 2).toNat) 0), (31, .eptr 1 ((findM (ownM l) dev 2).toNat) 0), (35, vi e1_.version), (37, vi f.version), (39, vi (limitM now))] [(1, .row false 54 6 (((ownM l).set ((findM (ownM l) dev 2).toNat) (⟨e1_.dev, 3, e1_.version, e1_.previous, e1_.since, e1_.have_⟩ : Update)).map Update.cells))] 2) (AD.tk 15 _ _ _ _ hd21) (fun hd23 => ?_)
   refine AWp.cut (fuel := 9) (m := [true, true, true, true, true, true, true, true, true, false, true, true, true, true, true, true, false, false, false, false, false, false, false, false]) (s := Z 49 [(9, .sl 1), (30, .eptr 1 ((findM (ownM l) dev 2).toNat) 0), (31, .eptr 1 ((findM (ownM l) dev 2).toNat) 0), (35, vi e1_.version), (36, .ptr 0 1), (39, vi (limitM now)), (42, .eptr 1 ((findM (ownM l) dev 2).toNat) 0)] [(0, .box 28 (avs (Firmware.cells f))), (1, .row false 54 6 (((ownM l).set ((findM (ownM l) dev 2).toNat) (⟨e1_.dev, 3, e1_.version, e1_.previous, e1_.since, e1_.have_⟩ : Update)).map Update.cells))] 2) (AD.tk 16 _ _ _ _ hd22) (fun hd24 => ?_)
   refine AWp.cut (fuel := 10) (m := [true, true, true, true, true, true, true, true, true, true, true, true, true, true, false, false, false, false, false, false, false, false, false, false]) (s := Z 49 [(9, .sl 1), (29, .eptr 1 ((findM (ownM l) dev 2).toNat) 0), (30, .eptr 1 ((findM (ownM l) dev 2).toNat) 0), (31, .eptr 1 ((findM (ownM l) dev 2).toNat) 0), (35, vi e1_.version), (37, vi f.version), (39, vi (limitM now)), (41, .eptr 1 ((findM (ownM l) dev 2).toNat) 1)] [(1, .row false 54 6 ((ownM l).map Update.cells))] 2) (AD.step 14 [] (ADs.cons _ rfl (AOps.he [.stR Update.cells (ownM l) 1 6 ((findM (ownM l) dev 2).toNat) 1 e1_ (⟨e1_.dev, 3, e1_.version, e1_.previous, e1_.since, e1_.have_⟩ : Update) he1_] _ _ _ _ ⟨rfl, rfl⟩) hd23 (ADs.nil))) (fun hd25 => ?_)
   refine AWp.cut (fuel := 10) (m := [true, true, true, true, true, true, true, true, true, false, true, true, true, true, true, false, false, false, false, false, false, false, false, false]) (s := Z 49 [(9, .sl 1), (29, .eptr 1 ((findM (ownM l) dev 2).toNat) 0), (30, .eptr 1 ((findM (ownM l) dev 2).toNat) 0), (31, .eptr 1 ((findM (ownM l) dev 2).toNat) 0), (35, vi e1_.version), (36, .ptr 0 1), (39, vi (limitM now))] [(0, .box 28 (avs (Firmware.cells f))), (1, .row false 54 6 (((ownM l).set ((findM (ownM l) dev 2).toNat) (⟨e1_.dev, 3, e1_.version, e1_.previous, e1_.since, e1_.have_⟩ : Update)).map Update.cells))] 2) (AD.tk 15 _ _ _ _ hd24) (fun hd26 => ?_)
   refine AWp.cut (fuel := 11) (m := [true, true, true, true, true, true, true, true, true, true, true, true, true, false, false, false, false, false, false, false, false, false, false, false]) (s := Z 49 [(9, .sl 1), (29, .eptr 1 ((findM (ownM l) dev 2).toNat) 0), (30, .eptr 1 ((findM (ownM l) dev 2).toNat) 0), (31, .eptr 1 ((findM (ownM l) dev 2).toNat) 0), (35, vi e1_.version), (37, vi f.version), (39, vi (limitM now)), (40, .eptr 1 ((findM (ownM l) dev 2).toNat) 0)] [(1, .row false 54 6 ((ownM l).map Update.cells))] 2) (AD.tk 13 _ _ _ _ hd25) (fun hd27 => ?_)
   refine AWp.cut (fuel := 11) (m := [true, true, true, true, true, true, true, true, true, false, true, true, true, true, false, false, false, false, false, false, false, false, false, false]) (s := Z 49 [(9, .sl 1), (29, .eptr 1 ((findM (ownM l) dev 2).toNat) 0), (30, .eptr 1 ((findM (ownM l) dev 2).toNat) 0), (31, .eptr 1 ((findM (ownM l) dev 2).toNat) 0), (35, vi e1_.version), (36, .ptr 0 1), (39, vi (limitM now)), (41, .eptr 1 ((findM (ownM l) dev 2).toNat) 1)] [(0, .box 28 (avs (Firmware.cells f))), (1, .row false 54 6 ((ownM l).map Update.cells))] 2) (AD.step 9 [14] (ADs.cons _ rfl (AOps.he [.run 1] _ _ _ _ ⟨rfl, rfl⟩) hd25 (ADs.cons _ rfl (AOps.he [.stR Update.cells (ownM l) 1 6 ((findM (ownM l) dev 2).toNat) 1 e1_ (⟨e1_.dev, 3, e1_.version, e1_.previous, e1_.since, e1_.have_⟩ : Update) he1_] _ _ _ _ ⟨rfl, rfl⟩) hd26 (ADs.nil)))) (fun hd28 => ?_)
   refine AWp.cut (fuel := 12) (m := [true, true, true, true, true, true, true, true, true, true, true, true, false, false, false, false, false, false, false, false, false, false, false, false]) (s := Z 49 [(9, .sl 1), (28, .eptr 1 ((findM (ownM l) dev 2).toNat) 0), (29, .eptr 1 ((findM (ownM l) dev 2).toNat) 0), (30, .eptr 1 ((findM (ownM l) dev 2).toNat) 0), (31, .eptr 1 ((findM (ownM l) dev 2).toNat) 0), (35, vi e1_.version), (37, vi f.version), (39, vi (limitM now))] [(1, .row false 54 6 ((ownM l).map Update.cells))] 2) (AD.tk 12 _ _ _ _ hd27) (fun hd29 => ?_)
   refine AWp.cut (fuel := 12) (m := [true, true, true, true, true, true, true, true, true, false, true, true, true, false, false, false, false, false, false, false, false, false, false, false]) (s := Z 49 [(9, .sl 1), (29, .eptr 1 ((findM (ownM l) dev 2).toNat) 0), (30, .eptr 1 ((findM (ownM l) dev 2).toNat) 0), (31, .eptr 1 ((findM (ownM l) dev 2).toNat) 0), (35, vi e1_.version), (36, .ptr 0 1), (39, vi (limitM now)), (40, .eptr 1 ((findM (ownM l) dev 2).toNat) 0)] [(0, .box 28 (avs (Firmware.cells f))), (1, .row false 54 6 ((ownM l).map Update.cells))] 2) (AD.tk 13 _ _ _ _ hd28) (fun hd30 => ?_)
   refine AWp.cut (fuel := 13) (m := [true, true, true, true, true, true, true, true, true, true, true, false, false, false, false, false, false, false, false, false, false, false, false, false]) (s := Z 49 [(9, .sl 1), (28, .eptr 1 ((findM (ownM l) dev 2).toNat) 0), (29, .eptr 1 ((findM (ownM l) dev 2).toNat) 0), (30, .eptr 1 ((findM (ownM l) dev 2).toNat) 0), (31, .eptr 1 ((findM (ownM l) dev 2).toNat) 0), (35, vi e1_.version), (37, vi f.version), (38, vi now)] [(1, .row false 54 6 ((ownM l).map Update.cells))] 2) (AD.step 11 [] (ADs.cons _ rfl (AOps.he [.call 42 [vi now] (vi (limitM now)) [] 0 (limitM_ok now)] _ _ _ _ ⟨rfl, rfl⟩) hd29 (ADs.nil))) (fun hd31 => ?_)
   refine AWp.cut (fuel := 13) (m := [true, true, true, true, true, true, true, true, true, false, true, true, false, false, false, false, false, false, false, false, false, false, false, false]) (s := Z 49 [(9, .sl 1), (28, .eptr 1 ((findM (ownM l) dev 2).toNat) 0), (29, .eptr 1 ((findM (ownM l) dev 2).toNat) 0), (30, .eptr 1 ((findM (ownM l) dev 2).toNat) 0), (31, .eptr 1 ((findM (ownM l) dev 2).toNat) 0), (35, vi e1_.version), (36, .ptr 0 1), (39, vi (limitM now))] [(0, .box 28 (avs (Firmware.cells f))), (1, .row false 54 6 ((ownM l).map Update.cells))] 2) (AD.tk 12 _ _ _ _ hd30) (fun hd32 => ?_)
   refine AWp.cut (fuel := 13) (m := [true, true, true, true, true, true, true, false, true, true, true, true, false, false, false, false, false, false, false, false, false, false, false, false]) (s := Z 49 [(9, .sl 1), (28, .eptr 1 ((findM (ownM l) dev 2).toNat) 0), (29, .eptr 1 ((findM (ownM l) dev 2).toNat) 0), (30, .eptr 1 ((findM (ownM l) dev 2).toNat) 0), (31, .eptr 1 ((findM (ownM l) dev 2).toNat) 0), (34, .eptr 1 ((findM (ownM l) dev 2).toNat) 2), (37, vi f.version), (39, vi (limitM now))] [(1, .row false 54 6 ((ownM l).map Update.cells))] 2) (AD.step 7 [] (ADs.cons _ rfl (AOps.he [.ldR1 Update.cells (ownM l) 1 6 ((findM (ownM l) dev 2).toNat) 2 e1_ he1_] _ _ _ _ ⟨rfl, rfl⟩) hd29 (ADs.nil))) (fun hd33 => ?_)
   refine AWp.cut (fuel := 14) (m := [true, true, true, true, true, true, true, true, true, false, true, false, false, false, false, false, false, false, false, false, false, false, false, false]) (s := Z 49 [(9, .sl 1), (28, .eptr 1 ((findM (ownM l) dev 2).toNat) 0), (29, .eptr 1 ((findM (ownM l) dev 2).toNat) 0), (30, .eptr 1 ((findM (ownM l) dev 2).toNat) 0), (31, .eptr 1 ((findM (ownM l) dev 2).toNat) 0), (35, vi e1_.version), (36, .ptr 0 1), (38, vi now)] [(0, .box 28 (avs (Firmware.cells f))), (1, .row false 54 6 ((ownM l).map Update.cells))] 2) (AD.step 9 [11] (ADs.cons _ rfl (AOps.he [.run 1] _ _ _ _ ⟨rfl, rfl⟩) hd31 (ADs.cons _ rfl (AOps.he [.call 42 [vi now] (vi (limitM now)) [] 0 (limitM_ok now)] _ _ _ _ ⟨rfl, rfl⟩) hd32 (ADs.nil)))) (fun hd34 => ?_)
   refine AWp.cut (fuel := 14) (m := [true, true, true, true, true, true, true, false, true, true, true, false, false, false, false, false, false, false, false, false, false, false, false, false]) (s := Z 49 [(9, .sl 1), (28, .eptr 1 ((findM (ownM l) dev 2).toNat) 0), (29, .eptr 1 ((findM (ownM l) dev 2).toNat) 0), (30, .eptr 1 ((findM (ownM l) dev 2).toNat) 0), (31, .eptr 1 ((findM (ownM l) dev 2).toNat) 0), (34, .eptr 1 ((findM (ownM l) dev 2).toNat) 2), (37, vi f.version), (38, vi now)] [(1, .row false 54 6 ((ownM l).map Update.cells))] 2) (AD.step 7 [11] (ADs.cons _ rfl (AOps.he [.ldR1 Update.cells (ownM l) 1 6 ((findM (ownM l) dev 2).toNat) 2 e1_ he1_] _ _ _ _ ⟨rfl, rfl⟩) hd31 (ADs.cons _ rfl (AOps.he [.call 42 [vi now] (vi (limitM now)) [] 0 (limitM_ok now)] _ _ _ _ ⟨rfl, rfl⟩) hd33 (ADs.nil)))) (fun hd35 => ?_)
   refine AWp.cut (fuel := 14) (m := [true, true, true, true, true, true, true, false, true, false, true, true, false, false, false, false, false, false, false, false, false, false, false, false]) (s := Z 49 [(9, .sl 1), (28, .eptr 1 ((findM (ownM l) dev 2).toNat) 0), (29, .eptr 1 ((findM (ownM l) dev 2).toNat) 0), (30, .eptr 1 ((findM (ownM l) dev 2).toNat) 0), (31, .eptr 1 ((findM (ownM l) dev 2).toNat) 0), (34, .eptr 1 ((findM (ownM l) dev 2).toNat) 2), (36, .ptr 0 1), (39, vi (limitM now))] [(0, .box 28 (avs (Firmware.cells f))), (1, .row false 54 6 ((ownM l).map Update.cells))] 2) (AD.step 7 [9] (ADs.cons _ rfl (AOps.he [.ldR1 Update.cells (ownM l) 1 6 ((findM (ownM l) dev 2).toNat) 2 e1_ he1_] _ _ _ _ ⟨rfl, rfl⟩) hd32 (ADs.cons _ rfl (AOps.he [.run 1] _ _ _ _ ⟨rfl, rfl⟩) hd33 (ADs.nil)))) (fun hd36 => ?_)
   refine AWp.cut (fuel := 15) (m := [true, true, true, true, true, true, true, false, true, false, true, false, false, false, false, false, false, false, false, false, false, false, false, false]) (s := Z 49 [(9, .sl 1), (28, .eptr 1 ((findM (ownM l) dev 2).toNat) 0), (29, .eptr 1 ((findM (ownM l) dev 2).toNat) 0), (30, .eptr 1 ((findM (ownM l) dev 2).toNat) 0), (31, .eptr 1 ((findM (ownM l) dev 2).toNat) 0), (34, .eptr 1 ((findM (ownM l) dev 2).toNat) 2), (36, .ptr 0 1), (38, vi now)] [(0, .box 28 (avs (Firmware.cells f))), (1, .row false 54 6 ((ownM l).map Update.cells))] 2) (AD.step 7 [9, 11] (ADs.cons _ rfl (AOps.he [.ldR1 Update.cells (ownM l) 1 6 ((findM (ownM l) dev 2).toNat) 2 e1_ he1_] _ _ _ _ ⟨rfl, rfl⟩) hd34 (ADs.cons _ rfl (AOps.he [.run 1] _ _ _ _ ⟨rfl, rfl⟩) hd35 (ADs.cons _ rfl (AOps.he [.call 42 [vi now] (vi (limitM now)) [] 0 (limitM_ok now)] _ _ _ _ ⟨rfl, rfl⟩) hd36 (ADs.nil))))) (fun hd37 => ?_)
   refine AWp.cut (fuel := 16) (m := [true, true, true, true, true, true, true, false, true, false, false, false, false, false, false, false, false, false, false, false, false, false, false, false]) (s := Z 49 [(3, vi now), (9, .sl 1), (28, .eptr 1 ((findM (ownM l) dev 2).toNat) 0), (29, .eptr 1 ((findM (ownM l) dev 2).toNat) 0), (30, .eptr 1 ((findM (ownM l) dev 2).toNat) 0), (31, .eptr 1 ((findM (ownM l) dev 2).toNat) 0), (34, .eptr 1 ((findM (ownM l) dev 2).toNat) 2), (36, .ptr 0 1)] [(0, .box 28 (avs (Firmware.cells f))), (1, .row false 54 6 ((ownM l).map Update.cells))] 2) (AD.tk 10 _ _ _ _ hd37) (fun hd38 => ?_)
   refine AWp.cut (fuel := 17) (m := [true, true, true, true, true, true, true, false, false, false, false, false, false, false, false, false, false, false, false, false, false, false, false, false]) (s := Z 49 [(3, vi now), (5, .ptr 0 0), (9, .sl 1), (28, .eptr 1 ((findM (ownM l) dev 2).toNat) 0), (29, .eptr 1 ((findM (ownM l) dev 2).toNat) 0), (30, .eptr 1 ((findM (ownM l) dev 2).toNat) 0), (31, .eptr 1 ((findM (ownM l) dev 2).toNat) 0), (34, .eptr 1 ((findM (ownM l) dev 2).toNat) 2)] [(0, .box 28 (avs (Firmware.cells f))), (1, .row false 54 6 ((ownM l).map Update.cells))] 2) (AD.tk 8 _ _ _ _ hd38) (fun hd39 => ?_)
   refine AWp.cut (fuel := 18) (m := [true, true, true, true, true, true, false, false, false, false, false, false, false, false, false, false, false, false, false, false, false, false, false, false]) (s := Z 49 [(3, vi now), (5, .ptr 0 0), (9, .sl 1), (28, .eptr 1 ((findM (ownM l) dev 2).toNat) 0), (29, .eptr 1 ((findM (ownM l) dev 2).toNat) 0), (30, .eptr 1 ((findM (ownM l) dev 2).toNat) 0), (31, .eptr 1 ((findM (ownM l) dev 2).toNat) 0), (33, .eptr 1 ((findM (ownM l) dev 2).toNat) 0)] [(0, .box 28 (avs (Firmware.cells f))), (1, .row false 54 6 ((ownM l).map Update.cells))] 2) (AD.tk 6 _ _ _ _ hd39) (fun hd40 => ?_)
   refine AWp.cut (fuel := 19) (m := [true, true, true, true, true, false, false, false, false, false, false, false, false, false, false, false, false, false, false, false, false, false, false, false]) (s := Z 49 [(3, vi now), (5, .ptr 0 0), (9, .sl 1), (28, .eptr 1 ((findM (ownM l) dev 2).toNat) 0), (29, .eptr 1 ((findM (ownM l) dev 2).toNat) 0), (30, .eptr 1 ((findM (ownM l) dev 2).toNat) 0), (31, .eptr 1 ((findM (ownM l) dev 2).toNat) 0), (32, .eptr 1 ((findM (ownM l) dev 2).toNat) 0)] [(0, .box 28 (avs (Firmware.cells f))), (1, .row false 54 6 ((ownM l).map Update.cells))] 2) (AD.tk 5 _ _ _ _ hd40) (fun hd41 => ?_)
   refine AWp.cut (fuel := 20) (m := [true, true, true, true, false, false, false, false, false, false, false, false, false, false, false, false, false, false, false, false, false, false, false, false]) (s := Z 49 [(3, vi now), (5, .ptr 0 0), (9, .sl 1), (11, .eptr 1 ((findM (ownM l) dev 2).toNat) 0), (28, .eptr 1 ((findM (ownM l) dev 2).toNat) 0), (29, .eptr 1 ((findM (ownM l) dev 2).toNat) 0), (30, .eptr 1 ((findM (ownM l) dev 2).toNat) 0), (31, .eptr 1 ((findM (ownM l) dev 2).toNat) 0)] [(0, .box 28 (avs (Firmware.cells f))), (1, .row false 54 6 ((ownM l).map Update.cells))] 2) (AD.tk 4 _ _ _ _ hd41) (fun hd42 => ?_)
   refine AWp.cut (fuel := 21) (m := [true, true, true, false, false, false, false, false, false, false, false, false, false, false, false, false, false, false, false, false, false, false, false, false]) (s := Z 49 [(3, vi now), (5, .ptr 0 0), (9, .sl 1), (11, .eptr 1 ((findM (ownM l) dev 2).toNat) 0), (28, .eptr 1 ((findM (ownM l) dev 2).toNat) 0), (29, .eptr 1 ((findM (ownM l) dev 2).toNat) 0), (30, .eptr 1 ((findM (ownM l) dev 2).toNat) 0)] [(0, .box 28 (avs (Firmware.cells f))), (1, .row false 54 6 ((ownM l).map Update.cells))] 2) (AD.tk 3 _ _ _ _ hd42) (fun hd43 => ?_)
   refine AWp.cut (fuel := 22) (m := [true, true, false, false, false, false, false, false, false, false, false, false, false, false, false, false, false, false, false, false, false, false, false, false]) (s := Z 49 [(3, vi now), (5, .ptr 0 0), (9, .sl 1), (11, .eptr 1 ((findM (ownM l) dev 2).toNat) 0), (28, .eptr 1 ((findM (ownM l) dev 2).toNat) 0), (29, .eptr 1 ((findM (ownM l) dev 2).toNat) 0)] [(0, .box 28 (avs (Firmware.cells f))), (1, .row false 54 6 ((ownM l).map Update.cells))] 2) (AD.tk 2 _ _ _ _ hd43) (fun hd44 => ?_)
   refine AWp.cut (fuel := 23) (m := [true, false, false, false, false, false, false, false, false, false, false, false, false, false, false, false, false, false, false, false, false, false, false, false]) (s := Z 49 [(3, vi now), (5, .ptr 0 0), (9, .sl 1), (11, .eptr 1 ((findM (ownM l) dev 2).toNat) 0), (28, .eptr 1 ((findM (ownM l) dev 2).toNat) 0)] [(0, .box 28 (avs (Firmware.cells f))), (1, .row false 54 6 ((ownM l).map Update.cells))] 2) (AD.tk 1 _ _ _ _ hd44) (fun hd45 => ?_)
   refine AWp.cut (fuel := 24) (m := [false, false, false, false, false, false, false, false, false, false, false, false, false, false, false, false, false, false, false, false, false, false, false, false]) (s := Z 49 [(3, vi now), (5, .ptr 0 0), (9, .sl 1), (11, .eptr 1 ((findM (ownM l) dev 2).toNat) 0)] [(0, .box 28 (avs (Firmware.cells f))), (1, .row false 54 6 ((ownM l).map Update.cells))] 2) (AD.tk 0 _ _ _ _ hd45) (fun hd46 => ?_)
   exact AWp.drawnA 24 leZ hd46
def confirmM (l : List Update) (dev : Int) (ok : Bool) (now : Int) : List Update :=
  (bif decide (findM (ownM l) dev 3 < 0) then (ownM l) else (bif !ok then (match ((ownM l))[(findM (ownM l) dev 3).toNat]? with | some e1_ => (((ownM l).set ((findM (ownM l) dev 3).toNat) (⟨e1_.dev, 5, e1_.version, e1_.previous, e1_.since, e1_.have_⟩ : Update)).set ((findM (ownM l) dev 3).toNat) (⟨e1_.dev, 5, e1_.previous, e1_.previous, e1_.since, e1_.have_⟩ : Update)) | none => default) else (match ((ownM l))[(findM (ownM l) dev 3).toNat]? with | some e1_ => (bif decide (IntKind.i64.wrap (limitM now - limitM e1_.since) ≥ 600) then ((ownM l).set ((findM (ownM l) dev 3).toNat) (⟨e1_.dev, 4, e1_.version, e1_.previous, e1_.since, e1_.have_⟩ : Update)) else (ownM l)) | none => default)))
theorem confirmM_ok (l : List Update) (dev : Int) (ok : Bool) (now : Int) (hl : l.length ≤ 1000000) (hh : ∀ u ∈ l, u.have_.length ≤ 1000000) :
 ACalls Try.prog G_ 25 [.rv (.sl 6 (l.map Update.cells)), vi dev, vb ok, vi now] [] 0 (fun r τ => r = .rv (.sl 6 ((confirmM l dev ok now).map Update.cells)) ∧ τ = []) := by
 have hol := ownM_len l
 have hoh := ownM_fit l hh
 refine ACalls.body Try.func25 rfl 50 [(0, .rv (.sl 6 (l.map Update.cells))), (1, vi dev), (2, vb ok), (3, vi now)] ?_
 refine AWp.hz [.run 1] 50 [(0, .rv (.sl 6 (l.map Update.cells))), (1, vi dev), (2, vb ok), (3, vi now)] [] 0 ?_
 refine AWp.hz [.run 1, .call 41 [.rv (.sl 6 (l.map Update.cells))] (.sl 0) [(0, .row false 54 6 ((ownM l).map Update.cells))] 1 (ownM_ok l (by first | omega | assumption | exact hh _ (List.mem_of_getElem? (by assumption)) | exact hv1_ _ (List.mem_of_getElem? (by assumption))) (by first | omega | assumption | exact hh _ (List.mem_of_getElem? (by assumption)) | exact hv1_ _ (List.mem_of_getElem? (by assumption)))), .run 1] 50 [(1, vi dev), (2, vb ok), (3, vi now), (9, .sl 0)] [(0, .row false 54 6 ((ownM l).map Update.cells))] 1 ?_
 refine AWp.hz [.run 2, .callB 43 [] [] [.rv (.sl 6 ((ownM l).map Update.cells)), vi dev, vi 3] (vi (findM (ownM l) dev 3)) (findM_ok (ownM l) dev 3), .run 1] 50 [(2, vb ok), (3, vi now), (9, .sl 0), (10, vi (findM (ownM l) dev 3))] [(0, .row false 54 6 ((ownM l).map Update.cells))] 1 ?_
 refine AWp.seq ?_
 refine AWp.hz [.run 2] 50 [(2, vb ok), (3, vi now), (9, .sl 0), (10, vi (findM (ownM l) dev 3)), (18, vb (decide (findM (ownM l) dev 3 < 0)))] [(0, .row false 54 6 ((ownM l).map Update.cells))] 1 ?_
 refine AWp.cnd (decide (findM (ownM l) dev 3 < 0)) (fun h1 => ?_) (fun h1 => ?_)
 ·
  have h1' := of_decide_eq_true h1
  refine AWp.hz [.run 2] 50 [(8, .sl 0)] [(0, .row false 54 6 ((ownM l).map Update.cells))] 1 ?_
  refine AWp.le (Le.frz _ 0) ?_
  refine AWp.cv 50 [(8, .rv (.sl 6 ((ownM l).map Update.cells)))] [] 1 ?_
  refine AWp.ret ?_
  exact leafR (r := .rv (.sl 6 ((ownM l).map Update.cells))) (by show (.rv (.sl 6 ((ownM l).map Update.cells)) : AV) = .rv (.sl 6 ((confirmM l dev ok now).map Update.cells)); unfold confirmM; (try rw [h1]); first | done | kernel_rfl)
 ·
  have h1' := of_decide_eq_false h1
  refine AWp.skip ?_
  have := findM_lt (ownM l) dev 3
  have ht2 : (findM (ownM l) dev 3) = (((findM (ownM l) dev 3).toNat : Nat) : Int) := (Int.toNat_of_nonneg (by omega)).symm
  have hi3 : (findM (ownM l) dev 3).toNat < (ownM l).length := by first | omega | (simp only [List.length_set]; omega)
  refine AWp.hz [.run 2, .slot 21 (vi (findM (ownM l) dev 3)) (vi (((findM (ownM l) dev 3).toNat : Nat) : Int)) (congrArg vi ht2), .idxR Update.cells (ownM l) 0 6 ((findM (ownM l) dev 3).toNat) hi3, .run 1] 50 [(2, vb ok), (3, vi now), (9, .sl 0), (11, .eptr 0 ((findM (ownM l) dev 3).toNat) 0)] [(0, .row false 54 6 ((ownM l).map Update.cells))] 1 ?_
  refine AWp.seq ?_
  refine AWp.block ?_
  refine AWp.hz [.run 3] 50 [(3, vi now), (9, .sl 0), (11, .eptr 0 ((findM (ownM l) dev 3).toNat) 0), (23, vb (!ok))] [(0, .row false 54 6 ((ownM l).map Update.cells))] 1 ?_
  refine AWp.cnd (!ok) (fun h4 => ?_) (fun h4 => ?_)
  ·
   obtain ⟨e1_, he1_⟩ := getEx (l := (ownM l)) (j := (findM (ownM l) dev 3).toNat) (by omega)
   have hse5 : (((ownM l).set ((findM (ownM l) dev 3).toNat) (⟨e1_.dev, 5, e1_.version, e1_.previous, e1_.since, e1_.have_⟩ : Update)))[(findM (ownM l) dev 3).toNat]? = some (⟨e1_.dev, 5, e1_.version, e1_.previous, e1_.since, e1_.have_⟩ : Update) := List.getElem?_set_self (by first | omega | (simp only [List.length_set, List.length_append, List.length_cons, List.length_nil] at *; omega))
   refine AWp.he [.run 5, .ldR1 Update.cells (ownM l) 0 6 ((findM (ownM l) dev 3).toNat) 3 e1_ he1_, .run 2, .stR Update.cells (ownM l) 0 6 ((findM (ownM l) dev 3).toNat) 1 e1_ (⟨e1_.dev, 5, e1_.version, e1_.previous, e1_.since, e1_.have_⟩ : Update) he1_, .run 2, .stR Update.cells ((ownM l).set ((findM (ownM l) dev 3).toNat) (⟨e1_.dev, 5, e1_.version, e1_.previous, e1_.since, e1_.have_⟩ : Update)) 0 6 ((findM (ownM l) dev 3).toNat) 2 (⟨e1_.dev, 5, e1_.version, e1_.previous, e1_.since, e1_.have_⟩ : Update) (⟨e1_.dev, 5, e1_.previous, e1_.previous, e1_.since, e1_.have_⟩ : Update) hse5] 50 [(9, .sl 0)] [(0, .row false 54 6 ((((ownM l).set ((findM (ownM l) dev 3).toNat) (⟨e1_.dev, 5, e1_.version, e1_.previous, e1_.since, e1_.have_⟩ : Update)).set ((findM (ownM l) dev 3).toNat) (⟨e1_.dev, 5, e1_.previous, e1_.previous, e1_.since, e1_.have_⟩ : Update)).map Update.cells))] 1 ?_
   refine AWp.hz [.run 2] 50 [(8, .sl 0)] [(0, .row false 54 6 ((((ownM l).set ((findM (ownM l) dev 3).toNat) (⟨e1_.dev, 5, e1_.version, e1_.previous, e1_.since, e1_.have_⟩ : Update)).set ((findM (ownM l) dev 3).toNat) (⟨e1_.dev, 5, e1_.previous, e1_.previous, e1_.since, e1_.have_⟩ : Update)).map Update.cells))] 1 ?_
   refine AWp.le (Le.frz _ 0) ?_
   refine AWp.cv 50 [(8, .rv (.sl 6 ((((ownM l).set ((findM (ownM l) dev 3).toNat) (⟨e1_.dev, 5, e1_.version, e1_.previous, e1_.since, e1_.have_⟩ : Update)).set ((findM (ownM l) dev 3).toNat) (⟨e1_.dev, 5, e1_.previous, e1_.previous, e1_.since, e1_.have_⟩ : Update)).map Update.cells)))] [] 1 ?_
   refine AWp.ret ?_
   exact leafR (r := .rv (.sl 6 ((((ownM l).set ((findM (ownM l) dev 3).toNat) (⟨e1_.dev, 5, e1_.version, e1_.previous, e1_.since, e1_.have_⟩ : Update)).set ((findM (ownM l) dev 3).toNat) (⟨e1_.dev, 5, e1_.previous, e1_.previous, e1_.since, e1_.have_⟩ : Update)).map Update.cells))) (by show (.rv (.sl 6 ((((ownM l).set ((findM (ownM l) dev 3).toNat) (⟨e1_.dev, 5, e1_.version, e1_.previous, e1_.since, e1_.have_⟩ : Update)).set ((findM (ownM l) dev 3).toNat) (⟨e1_.dev, 5, e1_.previous, e1_.previous, e1_.since, e1_.have_⟩ : Update)).map Update.cells)) : AV) = .rv (.sl 6 ((confirmM l dev ok now).map Update.cells)); unfold confirmM; (try simp only [he1_]); (try rw [h1]); (try rw [h4]); first | done | kernel_rfl)
  ·
   obtain ⟨e1_, he1_⟩ := getEx (l := (ownM l)) (j := (findM (ownM l) dev 3).toNat) (by omega)
   refine AWp.dz [vi now, vi (limitM now), .eptr 0 ((findM (ownM l) dev 3).toNat) 0, .eptr 0 ((findM (ownM l) dev 3).toNat) 0, .eptr 0 ((findM (ownM l) dev 3).toNat) 4, vi e1_.since, vi (limitM e1_.since), vi (IntKind.i64.wrap (limitM now - limitM e1_.since)), vb (decide (IntKind.i64.wrap (limitM now - limitM e1_.since) ≥ 600)), vb (decide (IntKind.i64.wrap (limitM now - limitM e1_.since) ≥ 600))] 50 [(9, .sl 0), (11, .eptr 0 ((findM (ownM l) dev 3).toNat) 0), (36, vb (decide (IntKind.i64.wrap (limitM now - limitM e1_.since) ≥ 600)))] [(0, .row false 54 6 ((ownM l).map Update.cells))] 1 ?_ ?_
   ·
    refine DSteps.cons (DStep.va) ?_
    refine DSteps.cons (DStep.call rfl (by kernel_rfl) (by kernel_rfl) (by kernel_rfl) (args := [vi now]) (by kernel_rfl) (by kernel_rfl) (limitM_ok now) (by kernel_rfl) (Nat.le_of_ble_eq_true (by kernel_rfl))) ?_
    refine DSteps.cons (DStep.va) ?_
    refine DSteps.cons (DStep.va) ?_
    refine DSteps.cons (DStep.va) ?_
    refine DSteps.cons (DStep.vs (by kernel_rfl) (R_loadRow1 Update.cells (ownM l) 0 6 ((findM (ownM l) dev 3).toNat) 4 (bt := 54) rfl (by kernel_rfl) (by kernel_rfl) (by kernel_rfl) he1_ rfl)) ?_
    refine DSteps.cons (DStep.call rfl (by kernel_rfl) (by kernel_rfl) (by kernel_rfl) (args := [vi e1_.since]) (by kernel_rfl) (by kernel_rfl) (limitM_ok e1_.since) (by kernel_rfl) (Nat.le_of_ble_eq_true (by kernel_rfl))) ?_
    refine DSteps.cons (DStep.va) ?_
    refine DSteps.cons (DStep.va) ?_
    refine DSteps.cons (DStep.va) ?_
    exact DSteps.nl
   refine AWp.cnd (decide (IntKind.i64.wrap (limitM now - limitM e1_.since) ≥ 600)) (fun h6 => ?_) (fun h6 => ?_)
   ·
    have h6' := of_decide_eq_true h6
    refine AWp.he [.run 3, .stR Update.cells (ownM l) 0 6 ((findM (ownM l) dev 3).toNat) 1 e1_ (⟨e1_.dev, 4, e1_.version, e1_.previous, e1_.since, e1_.have_⟩ : Update) he1_] 50 [(9, .sl 0)] [(0, .row false 54 6 (((ownM l).set ((findM (ownM l) dev 3).toNat) (⟨e1_.dev, 4, e1_.version, e1_.previous, e1_.since, e1_.have_⟩ : Update)).map Update.cells))] 1 ?_
    refine AWp.hz [.run 2] 50 [(8, .sl 0)] [(0, .row false 54 6 (((ownM l).set ((findM (ownM l) dev 3).toNat) (⟨e1_.dev, 4, e1_.version, e1_.previous, e1_.since, e1_.have_⟩ : Update)).map Update.cells))] 1 ?_
    refine AWp.le (Le.frz _ 0) ?_
    refine AWp.cv 50 [(8, .rv (.sl 6 (((ownM l).set ((findM (ownM l) dev 3).toNat) (⟨e1_.dev, 4, e1_.version, e1_.previous, e1_.since, e1_.have_⟩ : Update)).map Update.cells)))] [] 1 ?_
    refine AWp.ret ?_
    exact leafR (r := .rv (.sl 6 (((ownM l).set ((findM (ownM l) dev 3).toNat) (⟨e1_.dev, 4, e1_.version, e1_.previous, e1_.since, e1_.have_⟩ : Update)).map Update.cells))) (by show (.rv (.sl 6 (((ownM l).set ((findM (ownM l) dev 3).toNat) (⟨e1_.dev, 4, e1_.version, e1_.previous, e1_.since, e1_.have_⟩ : Update)).map Update.cells)) : AV) = .rv (.sl 6 ((confirmM l dev ok now).map Update.cells)); unfold confirmM; (try simp only [he1_]); (try rw [h1]); (try rw [h4]); (try rw [h6]); first | done | kernel_rfl)
   ·
    have h6' := of_decide_eq_false h6
    refine AWp.skip ?_
    refine AWp.hz [.run 2] 50 [(8, .sl 0)] [(0, .row false 54 6 ((ownM l).map Update.cells))] 1 ?_
    refine AWp.le (Le.frz _ 0) ?_
    refine AWp.cv 50 [(8, .rv (.sl 6 ((ownM l).map Update.cells)))] [] 1 ?_
    refine AWp.ret ?_
    exact leafR (r := .rv (.sl 6 ((ownM l).map Update.cells))) (by show (.rv (.sl 6 ((ownM l).map Update.cells)) : AV) = .rv (.sl 6 ((confirmM l dev ok now).map Update.cells)); unfold confirmM; (try simp only [he1_]); (try rw [h1]); (try rw [h4]); (try rw [h6]); first | done | kernel_rfl)
def overdueM_B1 (l : List Update) (now : Int) (k1_ : Nat) (x_ : (List Update)) : (List Update) :=
  match x_ with
  | (a1_0) => (match (a1_0)[k1_]? with | some e2_ => (bif ((e2_.status == 3) && decide (IntKind.i64.wrap (limitM now - limitM e2_.since) > 1200)) then (((a1_0.set k1_ (⟨e2_.dev, 5, e2_.version, e2_.previous, e2_.since, e2_.have_⟩ : Update)).set k1_ (⟨e2_.dev, 5, e2_.previous, e2_.previous, e2_.since, e2_.have_⟩ : Update))) else (a1_0)) | none => x_)
def overdueM_L1 (l : List Update) (now : Int) (x_ : (List Update)) : (List Update) := iterN (overdueM_B1 l now) 0 ((ownM l).length) x_
def overdueM (l : List Update) (now : Int) : List Update :=
  (overdueM_L1 l now ((ownM l)))
theorem overdueM_ok (l : List Update) (now : Int) (hl : l.length ≤ 1000000) (hh : ∀ u ∈ l, u.have_.length ≤ 1000000) :
 ACalls Try.prog G_ 45 [.rv (.sl 6 (l.map Update.cells)), vi now] [] 0 (fun r τ => r = .rv (.sl 6 ((overdueM l now).map Update.cells)) ∧ τ = []) := by
 have hol := ownM_len l
 have hoh := ownM_fit l hh
 refine ACalls.body Try.func45 rfl 41 [(0, .rv (.sl 6 (l.map Update.cells))), (1, vi now)] ?_
 refine AWp.hz [.run 1] 41 [(0, .rv (.sl 6 (l.map Update.cells))), (1, vi now)] [] 0 ?_
 refine AWp.hz [.run 1, .call 41 [.rv (.sl 6 (l.map Update.cells))] (.sl 0) [(0, .row false 54 6 ((ownM l).map Update.cells))] 1 (ownM_ok l (by first | omega | assumption | exact hh _ (List.mem_of_getElem? (by assumption)) | exact hv1_ _ (List.mem_of_getElem? (by assumption))) (by first | omega | assumption | exact hh _ (List.mem_of_getElem? (by assumption)) | exact hv1_ _ (List.mem_of_getElem? (by assumption)))), .run 1] 41 [(1, vi now), (5, .sl 0)] [(0, .row false 54 6 ((ownM l).map Update.cells))] 1 ?_
 refine AWp.seq ?_
 refine AWp.hzl [.run 1, .lenR Update.cells (ownM l) 0 6, .run 1] 41 [(1, vi now), (5, .sl 0), (10, .sl 0), (11, vi (((ownM l).length : Nat) : Int)), (12, vi 0)] [(0, .row false 54 6 ((ownM l).map Update.cells))] 1 (fun hl => ?_)
 obtain ⟨hn1, -⟩ := hl
 refine AWp.joinE1 (A := (List Update)) (fun x_ => Z 41 [(5, .sl 0)] [(0, .row false 54 6 (x_.map Update.cells))] 1) (fun x_ => x_ = (overdueM_L1 l now ((ownM l))) ∧ x_.length = (ownM l).length) ?_ ?_
 ·
  refine AWp.block ?_
  refine AWp.loop (ι := Nat × ((List Update))) (fun x_ => Z 41 [(1, vi now), (5, .sl 0), (10, .sl 0), (11, vi (((ownM l).length : Nat) : Int)), (12, vi ((x_.1 : Nat) : Int))] [(0, .row false 54 6 (x_.2.map Update.cells))] 1) (fun x_ => x_.1 ≤ ((ownM l).length) ∧ (overdueM_L1 l now ((ownM l))) = iterN (overdueM_B1 l now) x_.1 (((ownM l).length) - x_.1) x_.2 ∧ x_.2.length = (ownM l).length) (fun x_ => ((ownM l).length) - x_.1) (0, ((ownM l))) leZ ⟨Nat.zero_le _, rfl, rfl⟩ ?_
  rintro ⟨k1_, a1_0⟩ ⟨hk1_, hs1_, hl1_0⟩
  try dsimp only at hk1_
  try dsimp only at hs1_
  try dsimp only at hl1_0
  refine AWp.cv 41 [(1, vi now), (5, .sl 0), (10, .sl 0), (11, vi (((ownM l).length : Nat) : Int)), (12, vi ((k1_ : Nat) : Int))] [(0, .row false 54 6 (a1_0.map Update.cells))] 1 ?_
  refine AWp.hz [.run 1] 41 [(1, vi now), (5, .sl 0), (10, .sl 0), (11, vi (((ownM l).length : Nat) : Int)), (12, vi ((k1_ : Nat) : Int)), (13, vb (decide (((k1_ : Nat) : Int) < (((ownM l).length : Nat) : Int))))] [(0, .row false 54 6 (a1_0.map Update.cells))] 1 ?_
  refine AWp.seq ?_
  refine AWp.cnd (decide (((k1_ : Nat) : Int) < (((ownM l).length : Nat) : Int))) (fun h2 => ?_) (fun h2 => ?_)
  ·
   have h2' := of_decide_eq_true h2
   refine AWp.skip ?_
   refine AWp.seq ?_
   refine AWp.block ?_
   have hi3 : k1_ < a1_0.length := by first | omega | (simp only [List.length_set]; omega)
   obtain ⟨e2_, he2_⟩ := getEx (l := a1_0) (j := k1_) (by omega)
   refine AWp.hz [.run 1, .idxR Update.cells a1_0 0 6 k1_ hi3, .ldR Update.cells a1_0 0 6 k1_ 0 6 e2_ he2_, .run 3] 41 [(1, vi now), (5, .sl 0), (6, vi ((k1_ : Nat) : Int)), (7, .ptr 1 0), (10, .sl 0), (11, vi (((ownM l).length : Nat) : Int)), (12, vi ((k1_ : Nat) : Int))] [(1, .box 54 (avs (Update.cells e2_))), (0, .row false 54 6 (a1_0.map Update.cells))] 2 ?_
   refine AWp.split ((e2_.status == 3)) (fun h4 => ?_) (fun h4 => ?_)
   ·
    refine AWp.dz [.ptr 1 1, vi e2_.status, vb true, vb true, vi now, vi (limitM now), .ptr 1 4, vi e2_.since, vi (limitM e2_.since), vi (IntKind.i64.wrap (limitM now - limitM e2_.since)), vb (decide (IntKind.i64.wrap (limitM now - limitM e2_.since) > 1200)), vb (decide (IntKind.i64.wrap (limitM now - limitM e2_.since) > 1200))] 41 [(1, vi now), (5, .sl 0), (6, vi ((k1_ : Nat) : Int)), (7, .ptr 1 0), (10, .sl 0), (11, vi (((ownM l).length : Nat) : Int)), (12, vi ((k1_ : Nat) : Int)), (28, vb (decide (IntKind.i64.wrap (limitM now - limitM e2_.since) > 1200)))] [(1, .box 54 (avs (Update.cells e2_))), (0, .row false 54 6 (a1_0.map Update.cells))] 2 ?_ ?_
    ·
     refine DSteps.cons (DStep.va) ?_
     refine DSteps.cons (DStep.va) ?_
     refine DSteps.cons ((DStep.val (v := vb (e2_.status == 3)) (by kernel_rfl) (by kernel_rfl)).cast (congrArg vb h4)) ?_
     refine DSteps.cons (DStep.va) ?_
     refine DSteps.cons (DStep.va) ?_
     refine DSteps.cons (DStep.call rfl (by kernel_rfl) (by kernel_rfl) (by kernel_rfl) (args := [vi now]) (by kernel_rfl) (by kernel_rfl) (limitM_ok now) (by kernel_rfl) (Nat.le_of_ble_eq_true (by kernel_rfl))) ?_
     refine DSteps.cons (DStep.va) ?_
     refine DSteps.cons (DStep.va) ?_
     refine DSteps.cons (DStep.call rfl (by kernel_rfl) (by kernel_rfl) (by kernel_rfl) (args := [vi e2_.since]) (by kernel_rfl) (by kernel_rfl) (limitM_ok e2_.since) (by kernel_rfl) (Nat.le_of_ble_eq_true (by kernel_rfl))) ?_
     refine DSteps.cons (DStep.va) ?_
     refine DSteps.cons (DStep.va) ?_
     refine DSteps.cons (DStep.va) ?_
     exact DSteps.nl
    refine AWp.cnd (decide (IntKind.i64.wrap (limitM now - limitM e2_.since) > 1200)) (fun h5 => ?_) (fun h5 => ?_)
    ·
     have h5' := of_decide_eq_true h5
     have hi6 : k1_ < a1_0.length := by first | omega | (simp only [List.length_set]; omega)
     have hi7 : k1_ < (a1_0.set k1_ (⟨e2_.dev, 5, e2_.version, e2_.previous, e2_.since, e2_.have_⟩ : Update)).length := by first | omega | (simp only [List.length_set]; omega)
     have hse8 : ((a1_0.set k1_ (⟨e2_.dev, 5, e2_.version, e2_.previous, e2_.since, e2_.have_⟩ : Update)))[k1_]? = some (⟨e2_.dev, 5, e2_.version, e2_.previous, e2_.since, e2_.have_⟩ : Update) := List.getElem?_set_self (by first | omega | (simp only [List.length_set, List.length_append, List.length_cons, List.length_nil] at *; omega))
     refine AWp.cut (fuel := 0) (m := [true, true, true, true, true, true, true, true, true, true, true, true]) (s := Z 41 [(1, vi now), (5, .sl 0), (10, .sl 0), (11, vi (((ownM l).length : Nat) : Int)), (12, vi ((k1_ : Nat) : Int))] [(0, .row false 54 6 (((a1_0.set k1_ (⟨e2_.dev, 5, e2_.version, e2_.previous, e2_.since, e2_.have_⟩ : Update)).set k1_ (⟨e2_.dev, 5, e2_.previous, e2_.previous, e2_.since, e2_.have_⟩ : Update)).map Update.cells))] 2) (AD.done ?_) (fun hd13 => ?_)
     ·
      refine AWp.he [.cast (vi (IntKind.i64.wrap (((k1_ : Nat) : Int) + 1))) (vi ((k1_ + 1 : Nat) : Int)) (congrArg vi (wrap_nat (by omega))), .run 1] 41 [(1, vi now), (5, .sl 0), (10, .sl 0), (11, vi (((ownM l).length : Nat) : Int)), (12, vi ((k1_ + 1 : Nat) : Int))] [(0, .row false 54 6 (((a1_0.set k1_ (⟨e2_.dev, 5, e2_.version, e2_.previous, e2_.since, e2_.have_⟩ : Update)).set k1_ (⟨e2_.dev, 5, e2_.previous, e2_.previous, e2_.since, e2_.have_⟩ : Update)).map Update.cells))] 2 ?_
      exact ⟨(k1_ + 1, (((a1_0.set k1_ (⟨e2_.dev, 5, e2_.version, e2_.previous, e2_.since, e2_.have_⟩ : Update)).set k1_ (⟨e2_.dev, 5, e2_.previous, e2_.previous, e2_.since, e2_.have_⟩ : Update)))), ⟨by show k1_ + 1 ≤ _; omega, iterN_next hs1_ (by omega) (by unfold overdueM_B1; (try dsimp only); (try simp only [he2_]); (try rw [h2]); (try rw [h4]); (try rw [h5]); first | done | kernel_rfl), by first | assumption | (simp only [List.length_set, List.length_append, List.length_cons, List.length_nil]; first | done | assumption | omega) | omega⟩, by show _ - (k1_ + 1) < _ - k1_; omega, leG⟩
     refine AWp.cut (fuel := 1) (m := [true, true, true, true, true, true, true, true, true, true, true, false]) (s := Z 41 [(1, vi now), (5, .sl 0), (10, .sl 0), (11, vi (((ownM l).length : Nat) : Int)), (12, vi ((k1_ : Nat) : Int)), (34, vi e2_.previous), (38, .eptr 0 k1_ 2)] [(0, .row false 54 6 ((a1_0.set k1_ (⟨e2_.dev, 5, e2_.version, e2_.previous, e2_.since, e2_.have_⟩ : Update)).map Update.cells))] 2) (AD.step 11 [] (ADs.cons _ rfl ?_ hd13 (ADs.nil))) (fun hd14 => ?_)
     ·
      have hse12 : ((a1_0.set k1_ (⟨e2_.dev, 5, e2_.version, e2_.previous, e2_.since, e2_.have_⟩ : Update)))[k1_]? = some (⟨e2_.dev, 5, e2_.version, e2_.previous, e2_.since, e2_.have_⟩ : Update) := List.getElem?_set_self (by first | omega | (simp only [List.length_set, List.length_append, List.length_cons, List.length_nil] at *; omega))
      refine AOps.he [.stR Update.cells (a1_0.set k1_ (⟨e2_.dev, 5, e2_.version, e2_.previous, e2_.since, e2_.have_⟩ : Update)) 0 6 k1_ 2 (⟨e2_.dev, 5, e2_.version, e2_.previous, e2_.since, e2_.have_⟩ : Update) (⟨e2_.dev, 5, e2_.previous, e2_.previous, e2_.since, e2_.have_⟩ : Update) hse12] 41 [(1, vi now), (5, .sl 0), (10, .sl 0), (11, vi (((ownM l).length : Nat) : Int)), (12, vi ((k1_ : Nat) : Int))] [(0, .row false 54 6 (((a1_0.set k1_ (⟨e2_.dev, 5, e2_.version, e2_.previous, e2_.since, e2_.have_⟩ : Update)).set k1_ (⟨e2_.dev, 5, e2_.previous, e2_.previous, e2_.since, e2_.have_⟩ : Update)).map Update.cells))] 2 ?_
      exact ⟨rfl, rfl⟩
     refine AWp.cut (fuel := 2) (m := [true, true, true, true, true, true, true, true, true, true, false, false]) (s := Z 41 [(1, vi now), (5, .sl 0), (10, .sl 0), (11, vi (((ownM l).length : Nat) : Int)), (12, vi ((k1_ : Nat) : Int)), (34, vi e2_.previous), (37, .eptr 0 k1_ 0)] [(0, .row false 54 6 ((a1_0.set k1_ (⟨e2_.dev, 5, e2_.version, e2_.previous, e2_.since, e2_.have_⟩ : Update)).map Update.cells))] 2) (AD.tk 10 _ _ _ _ hd14) (fun hd15 => ?_)
     refine AWp.cut (fuel := 3) (m := [true, true, true, true, true, true, true, true, true, false, false, false]) (s := Z 41 [(1, vi now), (5, .sl 0), (10, .sl 0), (11, vi (((ownM l).length : Nat) : Int)), (12, vi ((k1_ : Nat) : Int)), (31, .sl 0), (32, vi ((k1_ : Nat) : Int)), (34, vi e2_.previous)] [(0, .row false 54 6 ((a1_0.set k1_ (⟨e2_.dev, 5, e2_.version, e2_.previous, e2_.since, e2_.have_⟩ : Update)).map Update.cells))] 2) (AD.step 9 [] (ADs.cons _ rfl ?_ hd15 (ADs.nil))) (fun hd16 => ?_)
     ·
      have hi11 : k1_ < (a1_0.set k1_ (⟨e2_.dev, 5, e2_.version, e2_.previous, e2_.since, e2_.have_⟩ : Update)).length := by first | omega | (simp only [List.length_set]; omega)
      refine AOps.he [.idxR Update.cells (a1_0.set k1_ (⟨e2_.dev, 5, e2_.version, e2_.previous, e2_.since, e2_.have_⟩ : Update)) 0 6 k1_ hi11] 41 [(1, vi now), (5, .sl 0), (10, .sl 0), (11, vi (((ownM l).length : Nat) : Int)), (12, vi ((k1_ : Nat) : Int)), (34, vi e2_.previous), (37, .eptr 0 k1_ 0)] [(0, .row false 54 6 ((a1_0.set k1_ (⟨e2_.dev, 5, e2_.version, e2_.previous, e2_.since, e2_.have_⟩ : Update)).map Update.cells))] 2 ?_
      exact ⟨rfl, rfl⟩
     refine AWp.cut (fuel := 4) (m := [true, true, true, true, true, true, true, true, false, false, false, false]) (s := Z 41 [(1, vi now), (5, .sl 0), (10, .sl 0), (11, vi (((ownM l).length : Nat) : Int)), (12, vi ((k1_ : Nat) : Int)), (31, .sl 0), (32, vi ((k1_ : Nat) : Int)), (34, vi e2_.previous), (36, .eptr 0 k1_ 1)] [(0, .row false 54 6 (a1_0.map Update.cells))] 2) (AD.step 8 [] (ADs.cons _ rfl (AOps.he [.stR Update.cells a1_0 0 6 k1_ 1 e2_ (⟨e2_.dev, 5, e2_.version, e2_.previous, e2_.since, e2_.have_⟩ : Update) he2_] _ _ _ _ ⟨rfl, rfl⟩) hd16 (ADs.nil))) (fun hd17 => ?_)
     refine AWp.cut (fuel := 4) (m := [true, true, true, true, true, false, true, true, true, false, false, false]) (s := Z 41 [(1, vi now), (5, .sl 0), (10, .sl 0), (11, vi (((ownM l).length : Nat) : Int)), (12, vi ((k1_ : Nat) : Int)), (31, .sl 0), (32, vi ((k1_ : Nat) : Int)), (33, .ptr 1 3)] [(0, .row false 54 6 ((a1_0.set k1_ (⟨e2_.dev, 5, e2_.version, e2_.previous, e2_.since, e2_.have_⟩ : Update)).map Update.cells)), (1, .box 54 (avs (Update.cells e2_)))] 2) (AD.step 5 [] (ADs.cons _ rfl (AOps.he [.run 1] _ _ _ _ ⟨rfl, rfl⟩) hd16 (ADs.nil))) (fun hd18 => ?_)
     refine AWp.cut (fuel := 5) (m := [true, true, true, true, true, true, true, false, false, false, false, false]) (s := Z 41 [(1, vi now), (5, .sl 0), (10, .sl 0), (11, vi (((ownM l).length : Nat) : Int)), (12, vi ((k1_ : Nat) : Int)), (31, .sl 0), (32, vi ((k1_ : Nat) : Int)), (34, vi e2_.previous), (35, .eptr 0 k1_ 0)] [(0, .row false 54 6 (a1_0.map Update.cells))] 2) (AD.tk 7 _ _ _ _ hd17) (fun hd19 => ?_)
     refine AWp.cut (fuel := 5) (m := [true, true, true, true, true, false, true, true, false, false, false, false]) (s := Z 41 [(1, vi now), (5, .sl 0), (10, .sl 0), (11, vi (((ownM l).length : Nat) : Int)), (12, vi ((k1_ : Nat) : Int)), (31, .sl 0), (32, vi ((k1_ : Nat) : Int)), (33, .ptr 1 3), (36, .eptr 0 k1_ 1)] [(0, .row false 54 6 (a1_0.map Update.cells)), (1, .box 54 (avs (Update.cells e2_)))] 2) (AD.step 5 [8] (ADs.cons _ rfl (AOps.he [.run 1] _ _ _ _ ⟨rfl, rfl⟩) hd17 (ADs.cons _ rfl (AOps.he [.stR Update.cells a1_0 0 6 k1_ 1 e2_ (⟨e2_.dev, 5, e2_.version, e2_.previous, e2_.since, e2_.have_⟩ : Update) he2_] _ _ _ _ ⟨rfl, rfl⟩) hd18 (ADs.nil)))) (fun hd20 => ?_)
     refine AWp.cut (fuel := 6) (m := [true, true, true, true, true, true, false, false, false, false, false, false]) (s := Z 41 [(1, vi now), (5, .sl 0), (10, .sl 0), (11, vi (((ownM l).length : Nat) : Int)), (12, vi ((k1_ : Nat) : Int)), (29, .sl 0), (30, vi ((k1_ : Nat) : Int)), (31, .sl 0), (32, vi ((k1_ : Nat) : Int)), (34, vi e2_.previous)] [(0, .row false 54 6 (a1_0.map Update.cells))] 2) (AD.step 6 [] (ADs.cons _ rfl ?_ hd19 (ADs.nil))) (fun hd21 => ?_)
     ·
      have hi10 : k1_ < a1_0.length := by first | omega | (simp only [List.length_set]; omega)
      refine AOps.he [.idxR Update.cells a1_0 0 6 k1_ hi10] 41 [(1, vi now), (5, .sl 0), (10, .sl 0), (11, vi (((ownM l).length : Nat) : Int)), (12, vi ((k1_ : Nat) : Int)), (31, .sl 0), (32, vi ((k1_ : Nat) : Int)), (34, vi e2_.previous), (35, .eptr 0 k1_ 0)] [(0, .row false 54 6 (a1_0.map Update.cells))] 2 ?_
      exact ⟨rfl, rfl⟩
     refine AWp.cut (fuel := 6) (m := [true, true, true, true, true, false, true, false, false, false, false, false]) (s := Z 41 [(1, vi now), (5, .sl 0), (10, .sl 0), (11, vi (((ownM l).length : Nat) : Int)), (12, vi ((k1_ : Nat) : Int)), (31, .sl 0), (32, vi ((k1_ : Nat) : Int)), (33, .ptr 1 3), (35, .eptr 0 k1_ 0)] [(0, .row false 54 6 (a1_0.map Update.cells)), (1, .box 54 (avs (Update.cells e2_)))] 2) (AD.tk 7 _ _ _ _ hd20) (fun hd22 => ?_)
     refine AWp.cut (fuel := 7) (m := [true, true, true, true, true, false, false, false, false, false, false, false]) (s := Z 41 [(1, vi now), (5, .sl 0), (10, .sl 0), (11, vi (((ownM l).length : Nat) : Int)), (12, vi ((k1_ : Nat) : Int)), (29, .sl 0), (30, vi ((k1_ : Nat) : Int)), (31, .sl 0), (32, vi ((k1_ : Nat) : Int)), (33, .ptr 1 3)] [(0, .row false 54 6 (a1_0.map Update.cells)), (1, .box 54 (avs (Update.cells e2_)))] 2) (AD.step 5 [6] (ADs.cons _ rfl (AOps.he [.run 1] _ _ _ _ ⟨rfl, rfl⟩) hd21 (ADs.cons _ rfl ?_ hd22 (ADs.nil)))) (fun hd23 => ?_)
     ·
      have hi9 : k1_ < a1_0.length := by first | omega | (simp only [List.length_set]; omega)
      refine AOps.he [.idxR Update.cells a1_0 0 6 k1_ hi9] 41 [(1, vi now), (5, .sl 0), (10, .sl 0), (11, vi (((ownM l).length : Nat) : Int)), (12, vi ((k1_ : Nat) : Int)), (31, .sl 0), (32, vi ((k1_ : Nat) : Int)), (33, .ptr 1 3), (35, .eptr 0 k1_ 0)] [(0, .row false 54 6 (a1_0.map Update.cells)), (1, .box 54 (avs (Update.cells e2_)))] 2 ?_
      exact ⟨rfl, rfl⟩
     refine AWp.cut (fuel := 8) (m := [true, true, true, true, false, false, false, false, false, false, false, false]) (s := Z 41 [(1, vi now), (5, .sl 0), (7, .ptr 1 0), (10, .sl 0), (11, vi (((ownM l).length : Nat) : Int)), (12, vi ((k1_ : Nat) : Int)), (29, .sl 0), (30, vi ((k1_ : Nat) : Int)), (31, .sl 0), (32, vi ((k1_ : Nat) : Int))] [(0, .row false 54 6 (a1_0.map Update.cells)), (1, .box 54 (avs (Update.cells e2_)))] 2) (AD.tk 4 _ _ _ _ hd23) (fun hd24 => ?_)
     refine AWp.cut (fuel := 9) (m := [true, true, true, false, false, false, false, false, false, false, false, false]) (s := Z 41 [(1, vi now), (5, .sl 0), (6, vi ((k1_ : Nat) : Int)), (7, .ptr 1 0), (10, .sl 0), (11, vi (((ownM l).length : Nat) : Int)), (12, vi ((k1_ : Nat) : Int)), (29, .sl 0), (30, vi ((k1_ : Nat) : Int)), (31, .sl 0)] [(0, .row false 54 6 (a1_0.map Update.cells)), (1, .box 54 (avs (Update.cells e2_)))] 2) (AD.tk 3 _ _ _ _ hd24) (fun hd25 => ?_)
     refine AWp.cut (fuel := 10) (m := [true, true, false, false, false, false, false, false, false, false, false, false]) (s := Z 41 [(1, vi now), (5, .sl 0), (6, vi ((k1_ : Nat) : Int)), (7, .ptr 1 0), (10, .sl 0), (11, vi (((ownM l).length : Nat) : Int)), (12, vi ((k1_ : Nat) : Int)), (29, .sl 0), (30, vi ((k1_ : Nat) : Int))] [(0, .row false 54 6 (a1_0.map Update.cells)), (1, .box 54 (avs (Update.cells e2_)))] 2) (AD.tk 2 _ _ _ _ hd25) (fun hd26 => ?_)
     refine AWp.cut (fuel := 11) (m := [true, false, false, false, false, false, false, false, false, false, false, false]) (s := Z 41 [(1, vi now), (5, .sl 0), (6, vi ((k1_ : Nat) : Int)), (7, .ptr 1 0), (10, .sl 0), (11, vi (((ownM l).length : Nat) : Int)), (12, vi ((k1_ : Nat) : Int)), (29, .sl 0)] [(0, .row false 54 6 (a1_0.map Update.cells)), (1, .box 54 (avs (Update.cells e2_)))] 2) (AD.tk 1 _ _ _ _ hd26) (fun hd27 => ?_)
     refine AWp.cut (fuel := 12) (m := [false, false, false, false, false, false, false, false, false, false, false, false]) (s := Z 41 [(1, vi now), (5, .sl 0), (6, vi ((k1_ : Nat) : Int)), (7, .ptr 1 0), (10, .sl 0), (11, vi (((ownM l).length : Nat) : Int)), (12, vi ((k1_ : Nat) : Int))] [(0, .row false 54 6 (a1_0.map Update.cells)), (1, .box 54 (avs (Update.cells e2_)))] 2) (AD.tk 0 _ _ _ _ hd27) (fun hd28 => ?_)
     exact AWp.drawnA 12 leZ hd28
    ·
     have h5' := of_decide_eq_false h5
     refine AWp.skip ?_
     refine AWp.he [.cast (vi (IntKind.i64.wrap (((k1_ : Nat) : Int) + 1))) (vi ((k1_ + 1 : Nat) : Int)) (congrArg vi (wrap_nat (by omega))), .run 1] 41 [(1, vi now), (5, .sl 0), (10, .sl 0), (11, vi (((ownM l).length : Nat) : Int)), (12, vi ((k1_ + 1 : Nat) : Int))] [(0, .row false 54 6 (a1_0.map Update.cells))] 2 ?_
     exact ⟨(k1_ + 1, (a1_0)), ⟨by show k1_ + 1 ≤ _; omega, iterN_next hs1_ (by omega) (by unfold overdueM_B1; (try dsimp only); (try simp only [he2_]); (try rw [h2]); (try rw [h4]); (try rw [h5]); first | done | kernel_rfl), by first | assumption | (simp only [List.length_set, List.length_append, List.length_cons, List.length_nil]; first | done | assumption | omega) | omega⟩, by show _ - (k1_ + 1) < _ - k1_; omega, leG⟩
   ·
    refine AWp.dz [.ptr 1 1, vi e2_.status, vb false, vb false, .tuple [], .tuple [], .tuple [], .tuple [], .tuple [], .tuple [], .tuple [], vb false] 41 [(1, vi now), (5, .sl 0), (6, vi ((k1_ : Nat) : Int)), (7, .ptr 1 0), (10, .sl 0), (11, vi (((ownM l).length : Nat) : Int)), (12, vi ((k1_ : Nat) : Int)), (28, vb false)] [(1, .box 54 (avs (Update.cells e2_))), (0, .row false 54 6 (a1_0.map Update.cells))] 2 ?_ ?_
    ·
     refine DSteps.cons (DStep.va) ?_
     refine DSteps.cons (DStep.va) ?_
     refine DSteps.cons ((DStep.val (v := vb (e2_.status == 3)) (by kernel_rfl) (by kernel_rfl)).cast (congrArg vb h4)) ?_
     refine DSteps.cons (DStep.va) ?_
     refine DSteps.cons (DStep.skip (by kernel_rfl)) ?_
     refine DSteps.cons (DStep.skip (by kernel_rfl)) ?_
     refine DSteps.cons (DStep.skip (by kernel_rfl)) ?_
     refine DSteps.cons (DStep.skip (by kernel_rfl)) ?_
     refine DSteps.cons (DStep.skip (by kernel_rfl)) ?_
     refine DSteps.cons (DStep.skip (by kernel_rfl)) ?_
     refine DSteps.cons (DStep.skip (by kernel_rfl)) ?_
     refine DSteps.cons (DStep.va) ?_
     exact DSteps.nl
    refine AWp.cndF ?_
    refine AWp.skip ?_
    refine AWp.he [.cast (vi (IntKind.i64.wrap (((k1_ : Nat) : Int) + 1))) (vi ((k1_ + 1 : Nat) : Int)) (congrArg vi (wrap_nat (by omega))), .run 1] 41 [(1, vi now), (5, .sl 0), (10, .sl 0), (11, vi (((ownM l).length : Nat) : Int)), (12, vi ((k1_ + 1 : Nat) : Int))] [(0, .row false 54 6 (a1_0.map Update.cells))] 2 ?_
    exact ⟨(k1_ + 1, (a1_0)), ⟨by show k1_ + 1 ≤ _; omega, iterN_next hs1_ (by omega) (by unfold overdueM_B1; (try dsimp only); (try simp only [he2_]); (try rw [h2]); (try rw [h4]); first | done | kernel_rfl), by first | assumption | (simp only [List.length_set, List.length_append, List.length_cons, List.length_nil]; first | done | assumption | omega) | omega⟩, by show _ - (k1_ + 1) < _ - k1_; omega, leG⟩
  ·
   have h2' := of_decide_eq_false h2
   refine AWp.exit ?_
   have hq1_ : (a1_0) = (overdueM_L1 l now ((ownM l))) := iterN_end hs1_ (by omega)
   exact ⟨(a1_0), ⟨hq1_, by first | assumption | (simp only [List.length_set, List.length_append, List.length_cons, List.length_nil]; first | done | assumption | omega) | omega⟩, leG⟩
 ·
  rintro _ ⟨rfl, hl1_0⟩
  try dsimp only at hl1_0
  refine AWp.hz [.run 2] 41 [(4, .sl 0)] [(0, .row false 54 6 ((overdueM_L1 l now ((ownM l))).map Update.cells))] 1 ?_
  refine AWp.le (Le.frz _ 0) ?_
  refine AWp.cv 41 [(4, .rv (.sl 6 ((overdueM_L1 l now ((ownM l))).map Update.cells)))] [] 1 ?_
  refine AWp.ret ?_
  exact leafR (r := .rv (.sl 6 ((overdueM_L1 l now ((ownM l))).map Update.cells))) (by show (.rv (.sl 6 ((overdueM_L1 l now ((ownM l))).map Update.cells)) : AV) = .rv (.sl 6 ((overdueM l now).map Update.cells)); unfold overdueM; first | done | kernel_rfl)
end Go.Proofs.Ytjgpnceaicijcaa
