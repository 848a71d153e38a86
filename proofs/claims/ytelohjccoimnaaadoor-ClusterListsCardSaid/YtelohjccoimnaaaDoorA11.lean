/- The statements: what they compute. -/
import Derived.Test.YtelohjccoimnaaaDoorA10
import Derived.Test.YtelohjccoimnaaaDoorPa
namespace Go.Proofs.YtelohjccoimnaaaDoor
open Go Go.Av Go.Hh Go.Proofs
set_option maxRecDepth 100000
set_option maxHeartbeats 4000000
theorem awake_true : awakeM stdM = true := by kernel_rfl
theorem iterN_len {α : Type} {b : Nat → List α → List α} (h : ∀ k a, (b k a).length = a.length) : ∀ (m k : Nat) (a : List α), (iterN b k m a).length = a.length
  | 0, _, _ => rfl
  | m + 1, k, a => by rw [iterN, iterN_len h m, h]
theorem apply_len (c : Cluster) (command : ByteArray) (param : Val) (vals : List Val) : ((applyM c command param vals).1).length ≤ vals.length := by
  have h3 : ∀ (e : Effect) (a : List Val), (applyM_L3 c command param vals e a).length = a.length := fun e a => iterN_len (fun k a => by
    unfold applyM_B3
    simp only [cond_eq_ite]
    split
    · split
      · split
        · simp
        · rfl
      · rfl
    · rfl) _ _ _
  have h2 : ∀ (a : List Val), (applyM_L2 c command param vals a).length = a.length := fun a => iterN_len (fun k a => by
    unfold applyM_B2
    simp only
    split
    · exact h3 _ _
    · rfl) _ _ _
  unfold applyM
  simp only [cond_eq_ite]
  split
  · simp
  split
  · simp
  split
  · simp
  split
  · simp
  cases h1 : applyM_L1 c command param vals with
  | none => simp [h2]
  | some r =>
    obtain ⟨k, _, _, hk, _⟩ := scanN_get h1
    unfold applyM_B1 at hk
    simp only [cond_eq_ite] at hk
    split at hk
    · split at hk
      · split at hk
        · simp only [Option.some.injEq] at hk
          subst hk
          simp
        · cases hk
      · cases hk
    · cases hk
theorem awake_ok : ACalls Tryd.prog G_ 12 [] [] 0 (fun r τ => r = vb true ∧ τ = []) := awake_true ▸ awakeM_ok stdM stdM_ok std_fit
def lChecksM (c : Cluster) : Bool :=
  (!(smallM c) || (checkM c == rcheckM c))
theorem lChecksM_ok (c : Cluster) :
 ACalls Tryd.prog G_ 3 [.agg (avs (Cluster.cells c))] [] 0 (fun r τ => r = vb (lChecksM c) ∧ τ = []) := by
 refine ACalls.body Tryd.func3 rfl 15 [(0, .agg (avs (Cluster.cells c)))] ?_
 refine AWp.hz [.run 2] 15 [(1, .ptr 0 0)] [(0, .box 26 (avs (Cluster.cells c)))] 1 ?_
 refine AWp.seq ?_
 refine AWp.hz [.run 1, .call 11 [.agg (avs (Cluster.cells c))] (vb (smallM c)) [] 0 (smallM_ok c), .run 1] 15 [(1, .ptr 0 0), (5, vb (!(smallM c)))] [(0, .box 26 (avs (Cluster.cells c)))] 1 ?_
 refine AWp.cnd (!(smallM c)) (fun h1 => ?_) (fun h1 => ?_)
 ·
  refine AWp.hz [.call 12 [] (vb true) [] 0 (awake_ok), .run 1] 15 [(2, vb true)] [] 1 ?_
  refine AWp.ret ?_
  exact leafR (r := vb true) (by unfold lChecksM; (try rw [h1]); first | done | kernel_rfl)
 ·
  refine AWp.skip ?_
  refine AWp.split ((checkM c == rcheckM c)) (fun h2 => ?_) (fun h2 => ?_)
  ·
   refine AWp.dz [.agg (avs (Cluster.cells c)), vi (checkM c), .agg (avs (Cluster.cells c)), vi (rcheckM c), vb true, vb true, vb true, vb true, vb true] 15 [(2, vb true)] [] 1 ?_ ?_
   ·
    refine DSteps.cons (DStep.va) ?_
    refine DSteps.cons (DStep.call rfl (by kernel_rfl) (by kernel_rfl) (by kernel_rfl) (args := [.agg (avs (Cluster.cells c))]) (by kernel_rfl) (by kernel_rfl) (checkM_ok c (by first | assumption | exact std_fit _ (List.mem_of_getElem? (by assumption)) | exact fit_s1 (by assumption) | exact std_fit | exact fun c hc => std_fit c (List.mem_of_mem_take (List.mem_of_mem_drop hc)) | exact Nat.le_trans (apply_len _ _ _ _) (by omega) | exact parts_fit (by assumption) | exact parts_fit (by assumption) _ (List.mem_of_getElem? (by assumption)) | (simp; done) | exact ⟨by simp, by simp⟩ | exact hw _ (List.mem_of_getElem? (by assumption)) | exact hw.1 _ (List.mem_of_getElem? (by assumption)) | exact (hw.2 _ (List.mem_of_getElem? (by assumption))).1 | exact (hw.2 _ (List.mem_of_getElem? (by assumption))).2 | omega | exact fit_take hw _)) (by kernel_rfl) (Nat.le_of_ble_eq_true (by kernel_rfl))) ?_
    refine DSteps.cons (DStep.va) ?_
    refine DSteps.cons (DStep.call rfl (by kernel_rfl) (by kernel_rfl) (by kernel_rfl) (args := [.agg (avs (Cluster.cells c))]) (by kernel_rfl) (by kernel_rfl) (rcheckM_ok c) (by kernel_rfl) (Nat.le_of_ble_eq_true (by kernel_rfl))) ?_
    refine DSteps.cons ((DStep.val (v := vb (checkM c == rcheckM c)) (by kernel_rfl) (by kernel_rfl)).cast (congrArg vb h2)) ?_
    refine DSteps.cons (DStep.va) ?_
    refine DSteps.cons (DStep.call rfl (by kernel_rfl) (by kernel_rfl) (by kernel_rfl) (args := []) (by kernel_rfl) (by kernel_rfl) (awake_ok) (by kernel_rfl) (Nat.le_of_ble_eq_true (by kernel_rfl))) ?_
    refine DSteps.cons (DStep.va) ?_
    refine DSteps.cons (DStep.va) ?_
    exact DSteps.nl
   refine AWp.ret ?_
   exact leafR (r := vb true) (by unfold lChecksM; (try rw [h1]); (try rw [h2]); first | done | kernel_rfl)
  ·
   refine AWp.dz [.agg (avs (Cluster.cells c)), vi (checkM c), .agg (avs (Cluster.cells c)), vi (rcheckM c), vb false, vb false, .tuple [], vb false, vb false] 15 [(2, vb false)] [] 1 ?_ ?_
   ·
    refine DSteps.cons (DStep.va) ?_
    refine DSteps.cons (DStep.call rfl (by kernel_rfl) (by kernel_rfl) (by kernel_rfl) (args := [.agg (avs (Cluster.cells c))]) (by kernel_rfl) (by kernel_rfl) (checkM_ok c (by first | assumption | exact std_fit _ (List.mem_of_getElem? (by assumption)) | exact fit_s1 (by assumption) | exact std_fit | exact fun c hc => std_fit c (List.mem_of_mem_take (List.mem_of_mem_drop hc)) | exact Nat.le_trans (apply_len _ _ _ _) (by omega) | exact parts_fit (by assumption) | exact parts_fit (by assumption) _ (List.mem_of_getElem? (by assumption)) | (simp; done) | exact ⟨by simp, by simp⟩ | exact hw _ (List.mem_of_getElem? (by assumption)) | exact hw.1 _ (List.mem_of_getElem? (by assumption)) | exact (hw.2 _ (List.mem_of_getElem? (by assumption))).1 | exact (hw.2 _ (List.mem_of_getElem? (by assumption))).2 | omega | exact fit_take hw _)) (by kernel_rfl) (Nat.le_of_ble_eq_true (by kernel_rfl))) ?_
    refine DSteps.cons (DStep.va) ?_
    refine DSteps.cons (DStep.call rfl (by kernel_rfl) (by kernel_rfl) (by kernel_rfl) (args := [.agg (avs (Cluster.cells c))]) (by kernel_rfl) (by kernel_rfl) (rcheckM_ok c) (by kernel_rfl) (Nat.le_of_ble_eq_true (by kernel_rfl))) ?_
    refine DSteps.cons ((DStep.val (v := vb (checkM c == rcheckM c)) (by kernel_rfl) (by kernel_rfl)).cast (congrArg vb h2)) ?_
    refine DSteps.cons (DStep.va) ?_
    refine DSteps.cons (DStep.skip (by kernel_rfl)) ?_
    refine DSteps.cons (DStep.va) ?_
    refine DSteps.cons (DStep.va) ?_
    exact DSteps.nl
   refine AWp.ret ?_
   exact leafR (r := vb false) (by unfold lChecksM; (try rw [h1]); (try rw [h2]); first | done | kernel_rfl)
def lFindsM (c : Cluster) (x : ByteArray) : Bool :=
  (!(smallM c) || (bif (!(((attrM c x).2) == ((rattrM c x).2)) || !(sameAttrM ((attrM c x).1) ((rattrM c x).1))) then false else ((((commandM c x).2) == ((rcommandM c x).2)) && sameCommandM ((commandM c x).1) ((rcommandM c x).1))))
theorem lFindsM_ok (c : Cluster) (x : ByteArray) :
 ACalls Tryd.prog G_ 4 [.agg (avs (Cluster.cells c)), vs x] [] 0 (fun r τ => r = vb (lFindsM c x) ∧ τ = []) := by
 refine ACalls.body Tryd.func4 rfl 59 [(0, .agg (avs (Cluster.cells c))), (1, vs x)] ?_
 refine AWp.hz [.run 2] 59 [(1, vs x), (2, .ptr 0 0)] [(0, .box 26 (avs (Cluster.cells c)))] 1 ?_
 refine AWp.seq ?_
 refine AWp.hz [.run 1, .call 11 [.agg (avs (Cluster.cells c))] (vb (smallM c)) [] 0 (smallM_ok c), .run 1] 59 [(1, vs x), (2, .ptr 0 0), (13, vb (!(smallM c)))] [(0, .box 26 (avs (Cluster.cells c)))] 1 ?_
 refine AWp.cnd (!(smallM c)) (fun h1 => ?_) (fun h1 => ?_)
 ·
  refine AWp.hz [.call 12 [] (vb true) [] 0 (awake_ok), .run 1] 59 [(4, vb true)] [] 1 ?_
  refine AWp.ret ?_
  exact leafR (r := vb true) (by unfold lFindsM; (try rw [h1]); first | done | kernel_rfl)
 ·
  refine AWp.skip ?_
  refine AWp.hz [.run 2, .call 15 [.agg (avs (Cluster.cells c)), vs x] (.tuple [.agg (avs (Attr.cells ((attrM c x).1))), vb ((attrM c x).2)]) [] 0 (attrM_ok c x (by first | assumption | exact std_fit _ (List.mem_of_getElem? (by assumption)) | exact fit_s1 (by assumption) | exact std_fit | exact fun c hc => std_fit c (List.mem_of_mem_take (List.mem_of_mem_drop hc)) | exact Nat.le_trans (apply_len _ _ _ _) (by omega) | exact parts_fit (by assumption) | exact parts_fit (by assumption) _ (List.mem_of_getElem? (by assumption)) | (simp; done) | exact ⟨by simp, by simp⟩ | exact hw _ (List.mem_of_getElem? (by assumption)) | exact hw.1 _ (List.mem_of_getElem? (by assumption)) | exact (hw.2 _ (List.mem_of_getElem? (by assumption))).1 | exact (hw.2 _ (List.mem_of_getElem? (by assumption))).2 | omega | exact fit_take hw _)), .run 6] 59 [(1, vs x), (2, .ptr 0 0), (5, .ptr 1 0), (6, vb ((attrM c x).2))] [(1, .box 32 (avs (Attr.cells ((attrM c x).1)))), (0, .box 26 (avs (Cluster.cells c)))] 2 ?_
  refine AWp.hz [.run 2, .call 16 [.agg (avs (Cluster.cells c)), vs x] (.tuple [.agg (avs (Attr.cells ((rattrM c x).1))), vb ((rattrM c x).2)]) [] 0 (rattrM_ok c x), .run 6] 59 [(1, vs x), (2, .ptr 0 0), (5, .ptr 1 0), (6, vb ((attrM c x).2)), (7, .ptr 2 0), (8, vb ((rattrM c x).2))] [(2, .box 32 (avs (Attr.cells ((rattrM c x).1)))), (1, .box 32 (avs (Attr.cells ((attrM c x).1)))), (0, .box 26 (avs (Cluster.cells c)))] 3 ?_
  refine AWp.seq ?_
  refine AWp.join (Z 59 [(1, vs x), (2, .ptr 0 0), (35, vb (!(((attrM c x).2) == ((rattrM c x).2)) || !(sameAttrM ((attrM c x).1) ((rattrM c x).1))))] [(0, .box 26 (avs (Cluster.cells c)))] 3) ?_ ?_
  ·
   refine AWp.region ?_
   refine AOps.hg [.run 4] (!(((attrM c x).2) == ((rattrM c x).2))) 59 (fun b_ => [(1, vs x), (2, .ptr 0 0), (5, .ptr 1 0), (7, .ptr 2 0), (30, vb b_)]) [(2, .box 32 (avs (Attr.cells ((rattrM c x).1)))), (1, .box 32 (avs (Attr.cells ((attrM c x).1)))), (0, .box 26 (avs (Cluster.cells c)))] 3 (fun hg2 => ?_) (fun hg2 => ?_)
   ·
    refine AOps.he [.run 5] 59 [(1, vs x), (2, .ptr 0 0), (35, vb true)] [(0, .box 26 (avs (Cluster.cells c)))] 3 ?_
    exact leZ (by rw [hg2]; first | done | kernel_rfl)
   ·
    refine AOps.he [.run 2, .call 17 [.agg (avs (Attr.cells ((attrM c x).1))), .agg (avs (Attr.cells ((rattrM c x).1)))] (vb (sameAttrM ((attrM c x).1) ((rattrM c x).1))) [] 0 (sameAttrM_ok ((attrM c x).1) ((rattrM c x).1)), .run 2] 59 [(1, vs x), (2, .ptr 0 0), (35, vb (!(sameAttrM ((attrM c x).1) ((rattrM c x).1))))] [(0, .box 26 (avs (Cluster.cells c)))] 3 ?_
    exact leZ (by rw [hg2]; first | done | kernel_rfl)
  ·
   refine AWp.cnd ((!(((attrM c x).2) == ((rattrM c x).2)) || !(sameAttrM ((attrM c x).1) ((rattrM c x).1)))) (fun h3 => ?_) (fun h3 => ?_)
   ·
    refine AWp.hz [.run 1] 59 [(4, vb false)] [] 3 ?_
    refine AWp.ret ?_
    exact leafR (r := vb false) (by unfold lFindsM; (try rw [h1]); (try rw [h3]); first | done | kernel_rfl)
   ·
    have h3l := or_fl h3
    have h3r := or_fr h3
    refine AWp.skip ?_
    refine AWp.hz [.run 2, .call 18 [.agg (avs (Cluster.cells c)), vs x] (.tuple [.agg (avs (Command.cells ((commandM c x).1))), vb ((commandM c x).2)]) [] 0 (commandM_ok c x (by first | assumption | exact std_fit _ (List.mem_of_getElem? (by assumption)) | exact fit_s1 (by assumption) | exact std_fit | exact fun c hc => std_fit c (List.mem_of_mem_take (List.mem_of_mem_drop hc)) | exact Nat.le_trans (apply_len _ _ _ _) (by omega) | exact parts_fit (by assumption) | exact parts_fit (by assumption) _ (List.mem_of_getElem? (by assumption)) | (simp; done) | exact ⟨by simp, by simp⟩ | exact hw _ (List.mem_of_getElem? (by assumption)) | exact hw.1 _ (List.mem_of_getElem? (by assumption)) | exact (hw.2 _ (List.mem_of_getElem? (by assumption))).1 | exact (hw.2 _ (List.mem_of_getElem? (by assumption))).2 | omega | exact fit_take hw _)), .run 6] 59 [(1, vs x), (2, .ptr 0 0), (6, vb ((commandM c x).2)), (9, .ptr 3 0)] [(3, .box 38 (avs (Command.cells ((commandM c x).1)))), (0, .box 26 (avs (Cluster.cells c)))] 4 ?_
    refine AWp.hz [.run 2, .call 19 [.agg (avs (Cluster.cells c)), vs x] (.tuple [.agg (avs (Command.cells ((rcommandM c x).1))), vb ((rcommandM c x).2)]) [] 0 (rcommandM_ok c x), .run 6] 59 [(6, vb ((commandM c x).2)), (8, vb ((rcommandM c x).2)), (9, .ptr 3 0), (10, .ptr 4 0)] [(4, .box 38 (avs (Command.cells ((rcommandM c x).1)))), (3, .box 38 (avs (Command.cells ((commandM c x).1))))] 5 ?_
    refine AWp.join (Z 59 [(4, vb ((((commandM c x).2) == ((rcommandM c x).2)) && sameCommandM ((commandM c x).1) ((rcommandM c x).1)))] [] 5) ?_ ?_
    ·
     refine AWp.region ?_
     refine AOps.hg [.run 4] ((((commandM c x).2) == ((rcommandM c x).2))) 59 (fun b_ => [(9, .ptr 3 0), (10, .ptr 4 0), (51, vb b_)]) [(4, .box 38 (avs (Command.cells ((rcommandM c x).1)))), (3, .box 38 (avs (Command.cells ((commandM c x).1))))] 5 (fun hg4 => ?_) (fun hg4 => ?_)
     ·
      refine AOps.hg [.run 2, .call 20 [.agg (avs (Command.cells ((commandM c x).1))), .agg (avs (Command.cells ((rcommandM c x).1)))] (vb (sameCommandM ((commandM c x).1) ((rcommandM c x).1))) [] 0 (sameCommandM_ok ((commandM c x).1) ((rcommandM c x).1)), .run 2] (sameCommandM ((commandM c x).1) ((rcommandM c x).1)) 59 (fun b_ => [(56, vb b_)]) [] 5 (fun hg5 => ?_) (fun hg5 => ?_)
      ·
       refine AOps.he [.call 12 [] (vb true) [] 0 (awake_ok), .run 2] 59 [(4, vb true)] [] 5 ?_
       exact leZ (by rw [hg4, hg5]; first | done | kernel_rfl)
      ·
       refine AOps.he [.run 3] 59 [(4, vb false)] [] 5 ?_
       exact leZ (by rw [hg4, hg5]; first | done | kernel_rfl)
     ·
      refine AOps.he [.run 8] 59 [(4, vb false)] [] 5 ?_
      exact leZ (by rw [hg4]; first | done | kernel_rfl)
    ·
     refine AWp.ret ?_
     exact leafR (r := vb ((((commandM c x).2) == ((rcommandM c x).2)) && sameCommandM ((commandM c x).1) ((rcommandM c x).1))) (by unfold lFindsM; (try rw [h1]); (try rw [h3]); first | done | kernel_rfl)
def lAppliesM (c : Cluster) (command : ByteArray) (param : Val) (vals : List Val) : Bool :=
  ((!(smallM c) || decide (((vals.length : Nat) : Int) > 30)) || ((((applyM c command param vals).2) == ((rapplyM c command param vals).2)) && sameValuesM ((applyM c command param vals).1) ((rapplyM c command param vals).1)))
theorem lAppliesM_ok (c : Cluster) (command : ByteArray) (param : Val) (vals : List Val) :
 ACalls Tryd.prog G_ 5 [.agg (avs (Cluster.cells c)), vs command, .agg (avs (Val.cells param)), .rv (.sl 3 (vals.map Val.cells))] [] 0 (fun r τ => r = vb (lAppliesM c command param vals) ∧ τ = []) := by
 refine ACalls.body Tryd.func5 rfl 49 [(0, .agg (avs (Cluster.cells c))), (1, vs command), (2, .agg (avs (Val.cells param))), (3, .rv (.sl 3 (vals.map Val.cells)))] ?_
 refine AWp.hz [.run 3] 49 [(1, vs command), (3, .rv (.sl 3 (vals.map Val.cells))), (4, .ptr 0 0), (6, .ptr 1 0)] [(1, .box 44 (avs (Val.cells param))), (0, .box 26 (avs (Cluster.cells c)))] 2 ?_
 refine AWp.seq ?_
 refine AWp.join (Z 49 [(1, vs command), (3, .rv (.sl 3 (vals.map Val.cells))), (4, .ptr 0 0), (6, .ptr 1 0), (20, vb (!(smallM c) || decide (((vals.length : Nat) : Int) > 30)))] [(1, .box 44 (avs (Val.cells param))), (0, .box 26 (avs (Cluster.cells c)))] 2) ?_ ?_
 ·
  refine AWp.region ?_
  refine AOps.hg [.run 1, .call 11 [.agg (avs (Cluster.cells c))] (vb (smallM c)) [] 0 (smallM_ok c), .run 2] (!(smallM c)) 49 (fun b_ => [(1, vs command), (3, .rv (.sl 3 (vals.map Val.cells))), (4, .ptr 0 0), (6, .ptr 1 0), (16, vb b_)]) [(1, .box 44 (avs (Val.cells param))), (0, .box 26 (avs (Cluster.cells c)))] 2 (fun hg1 => ?_) (fun hg1 => ?_)
  ·
   refine AOps.he [.run 4] 49 [(1, vs command), (3, .rv (.sl 3 (vals.map Val.cells))), (4, .ptr 0 0), (6, .ptr 1 0), (20, vb true)] [(1, .box 44 (avs (Val.cells param))), (0, .box 26 (avs (Cluster.cells c)))] 2 ?_
   exact leZ (by rw [hg1]; first | done | kernel_rfl)
  ·
   refine AOps.hel [.run 1, .len Val.cells vals 3, .run 2] 49 [(1, vs command), (3, .rv (.sl 3 (vals.map Val.cells))), (4, .ptr 0 0), (6, .ptr 1 0), (20, vb (decide (((vals.length : Nat) : Int) > 30)))] [(1, .box 44 (avs (Val.cells param))), (0, .box 26 (avs (Cluster.cells c)))] 2 (fun hl => ?_)
   obtain ⟨hn2, -⟩ := hl
   exact leZ (by rw [hg1]; first | done | kernel_rfl)
 ·
  refine AWp.cnd ((!(smallM c) || decide (((vals.length : Nat) : Int) > 30))) (fun h3 => ?_) (fun h3 => ?_)
  ·
   refine AWp.hz [.call 12 [] (vb true) [] 0 (awake_ok), .run 1] 49 [(8, vb true)] [] 2 ?_
   refine AWp.ret ?_
   exact leafR (r := vb true) (by unfold lAppliesM; (try rw [h3]); first | done | kernel_rfl)
  ·
   have h3l := or_fl h3
   have h3r := or_fr h3
   have h3r' := of_decide_eq_false h3r
   refine AWp.skip ?_
   refine AWp.hz [.run 4, .call 21 [.agg (avs (Cluster.cells c)), vs command, .agg (avs (Val.cells param)), .rv (.sl 3 (vals.map Val.cells))] (.tuple [.rv (.sl 3 (((applyM c command param vals).1).map Val.cells)), vi ((applyM c command param vals).2)]) [] 0 (applyM_ok c command param vals (by first | assumption | exact std_fit _ (List.mem_of_getElem? (by assumption)) | exact fit_s1 (by assumption) | exact std_fit | exact fun c hc => std_fit c (List.mem_of_mem_take (List.mem_of_mem_drop hc)) | exact Nat.le_trans (apply_len _ _ _ _) (by omega) | exact parts_fit (by assumption) | exact parts_fit (by assumption) _ (List.mem_of_getElem? (by assumption)) | (simp; done) | exact ⟨by simp, by simp⟩ | exact hw _ (List.mem_of_getElem? (by assumption)) | exact hw.1 _ (List.mem_of_getElem? (by assumption)) | exact (hw.2 _ (List.mem_of_getElem? (by assumption))).1 | exact (hw.2 _ (List.mem_of_getElem? (by assumption))).2 | omega | exact fit_take hw _) (by first | assumption | exact std_fit _ (List.mem_of_getElem? (by assumption)) | exact fit_s1 (by assumption) | exact std_fit | exact fun c hc => std_fit c (List.mem_of_mem_take (List.mem_of_mem_drop hc)) | exact Nat.le_trans (apply_len _ _ _ _) (by omega) | exact parts_fit (by assumption) | exact parts_fit (by assumption) _ (List.mem_of_getElem? (by assumption)) | (simp; done) | exact ⟨by simp, by simp⟩ | exact hw _ (List.mem_of_getElem? (by assumption)) | exact hw.1 _ (List.mem_of_getElem? (by assumption)) | exact (hw.2 _ (List.mem_of_getElem? (by assumption))).1 | exact (hw.2 _ (List.mem_of_getElem? (by assumption))).2 | omega | exact fit_take hw _)), .run 5] 49 [(1, vs command), (3, .rv (.sl 3 (vals.map Val.cells))), (4, .ptr 0 0), (6, .ptr 1 0), (9, .rv (.sl 3 (((applyM c command param vals).1).map Val.cells))), (10, vi ((applyM c command param vals).2))] [(1, .box 44 (avs (Val.cells param))), (0, .box 26 (avs (Cluster.cells c)))] 2 ?_
   refine AWp.hz [.run 4, .call 22 [.agg (avs (Cluster.cells c)), vs command, .agg (avs (Val.cells param)), .rv (.sl 3 (vals.map Val.cells))] (.tuple [.rv (.sl 3 (((rapplyM c command param vals).1).map Val.cells)), vi ((rapplyM c command param vals).2)]) [] 0 (rapplyM_ok c command param vals (by first | assumption | exact std_fit _ (List.mem_of_getElem? (by assumption)) | exact fit_s1 (by assumption) | exact std_fit | exact fun c hc => std_fit c (List.mem_of_mem_take (List.mem_of_mem_drop hc)) | exact Nat.le_trans (apply_len _ _ _ _) (by omega) | exact parts_fit (by assumption) | exact parts_fit (by assumption) _ (List.mem_of_getElem? (by assumption)) | (simp; done) | exact ⟨by simp, by simp⟩ | exact hw _ (List.mem_of_getElem? (by assumption)) | exact hw.1 _ (List.mem_of_getElem? (by assumption)) | exact (hw.2 _ (List.mem_of_getElem? (by assumption))).1 | exact (hw.2 _ (List.mem_of_getElem? (by assumption))).2 | omega | exact fit_take hw _)), .run 5] 49 [(9, .rv (.sl 3 (((applyM c command param vals).1).map Val.cells))), (10, vi ((applyM c command param vals).2)), (11, .rv (.sl 3 (((rapplyM c command param vals).1).map Val.cells))), (12, vi ((rapplyM c command param vals).2))] [] 2 ?_
   refine AWp.join (Z 49 [(8, vb ((((applyM c command param vals).2) == ((rapplyM c command param vals).2)) && sameValuesM ((applyM c command param vals).1) ((rapplyM c command param vals).1)))] [] 2) ?_ ?_
   ·
    refine AWp.region ?_
    refine AOps.hg [.run 4] ((((applyM c command param vals).2) == ((rapplyM c command param vals).2))) 49 (fun b_ => [(9, .rv (.sl 3 (((applyM c command param vals).1).map Val.cells))), (11, .rv (.sl 3 (((rapplyM c command param vals).1).map Val.cells))), (41, vb b_)]) [] 2 (fun hg4 => ?_) (fun hg4 => ?_)
    ·
     refine AOps.hg [.run 2, .call 23 [.rv (.sl 3 (((applyM c command param vals).1).map Val.cells)), .rv (.sl 3 (((rapplyM c command param vals).1).map Val.cells))] (vb (sameValuesM ((applyM c command param vals).1) ((rapplyM c command param vals).1))) [] 0 (sameValuesM_ok ((applyM c command param vals).1) ((rapplyM c command param vals).1)), .run 2] (sameValuesM ((applyM c command param vals).1) ((rapplyM c command param vals).1)) 49 (fun b_ => [(46, vb b_)]) [] 2 (fun hg5 => ?_) (fun hg5 => ?_)
     ·
      refine AOps.he [.call 12 [] (vb true) [] 0 (awake_ok), .run 2] 49 [(8, vb true)] [] 2 ?_
      exact leZ (by rw [hg4, hg5]; first | done | kernel_rfl)
     ·
      refine AOps.he [.run 3] 49 [(8, vb false)] [] 2 ?_
      exact leZ (by rw [hg4, hg5]; first | done | kernel_rfl)
    ·
     refine AOps.he [.run 8] 49 [(8, vb false)] [] 2 ?_
     exact leZ (by rw [hg4]; first | done | kernel_rfl)
   ·
    refine AWp.ret ?_
    exact leafR (r := vb ((((applyM c command param vals).2) == ((rapplyM c command param vals).2)) && sameValuesM ((applyM c command param vals).1) ((rapplyM c command param vals).1))) (by unfold lAppliesM; (try rw [h3]); first | done | kernel_rfl)
def lClosesM_B2 (c : Cluster) (command : ByteArray) (param : Val) (vals : List Val) (e1_ : Attr) (k2_ : Nat) (x_ : Bool) : Bool :=
  match x_ with
  | (a2_0) => (match (((commandM c command).1).effects)[k2_]? with | some e3_ => (bif a2_0 then (true) else (beqS e3_.attr e1_.name)) | none => x_)
def lClosesM_L2 (c : Cluster) (command : ByteArray) (param : Val) (vals : List Val) (e1_ : Attr) (x_ : Bool) : Bool := iterN (lClosesM_B2 c command param vals e1_) 0 ((((commandM c command).1).effects).length) x_
def lClosesM_B1 (c : Cluster) (command : ByteArray) (param : Val) (vals : List Val) (k1_ : Nat) : Option Bool :=
  (match (c.attrs)[k1_]? with | some e1_ => (match ((applyM c command param vals).1)[k1_]? with | some e2_ => (bif (fitsM e1_ e2_ != 0) then some false else (bif !(lClosesM_L2 c command param vals e1_ (false)) then (match (vals)[k1_]? with | some e4_ => (bif !((e2_.kind == e4_.kind) && ((e2_.n == e4_.n) && (beqS e2_.s e4_.s && true))) then some false else none) | none => none) else none)) | none => none) | none => none)
def lClosesM_L1 (c : Cluster) (command : ByteArray) (param : Val) (vals : List Val) : Option Bool := scanN (lClosesM_B1 c command param vals) 0 c.attrs.length
def lClosesM (c : Cluster) (command : ByteArray) (param : Val) (vals : List Val) : Bool :=
  ((!(smallM c) || decide (((vals.length : Nat) : Int) > 30)) || (bif (((applyM c command param vals).2) != 0) then (((((applyM c command param vals).1).length : Nat) : Int) == 0) else (bif (((((((applyM c command param vals).1).length : Nat) : Int) != ((c.attrs.length : Nat) : Int)) || (((vals.length : Nat) : Int) != ((((applyM c command param vals).1).length : Nat) : Int))) || !((commandM c command).2)) then false else (lClosesM_L1 c command param vals).getD true)))
theorem lClosesM_ok (c : Cluster) (command : ByteArray) (param : Val) (vals : List Val) :
 ACalls Tryd.prog G_ 6 [.agg (avs (Cluster.cells c)), vs command, .agg (avs (Val.cells param)), .rv (.sl 3 (vals.map Val.cells))] [] 0 (fun r τ => r = vb (lClosesM c command param vals) ∧ τ = []) := by
 refine ACalls.body Tryd.func6 rfl 110 [(0, .agg (avs (Cluster.cells c))), (1, vs command), (2, .agg (avs (Val.cells param))), (3, .rv (.sl 3 (vals.map Val.cells)))] ?_
 refine AWp.hz [.run 3] 110 [(1, vs command), (3, .rv (.sl 3 (vals.map Val.cells))), (4, .ptr 0 0), (6, .ptr 1 0)] [(1, .box 44 (avs (Val.cells param))), (0, .box 26 (avs (Cluster.cells c)))] 2 ?_
 refine AWp.seq ?_
 refine AWp.join (Z 110 [(1, vs command), (3, .rv (.sl 3 (vals.map Val.cells))), (4, .ptr 0 0), (6, .ptr 1 0), (25, vb (!(smallM c) || decide (((vals.length : Nat) : Int) > 30)))] [(1, .box 44 (avs (Val.cells param))), (0, .box 26 (avs (Cluster.cells c)))] 2) ?_ ?_
 ·
  refine AWp.region ?_
  refine AOps.hg [.run 1, .call 11 [.agg (avs (Cluster.cells c))] (vb (smallM c)) [] 0 (smallM_ok c), .run 2] (!(smallM c)) 110 (fun b_ => [(1, vs command), (3, .rv (.sl 3 (vals.map Val.cells))), (4, .ptr 0 0), (6, .ptr 1 0), (21, vb b_)]) [(1, .box 44 (avs (Val.cells param))), (0, .box 26 (avs (Cluster.cells c)))] 2 (fun hg1 => ?_) (fun hg1 => ?_)
  ·
   refine AOps.he [.run 4] 110 [(1, vs command), (3, .rv (.sl 3 (vals.map Val.cells))), (4, .ptr 0 0), (6, .ptr 1 0), (25, vb true)] [(1, .box 44 (avs (Val.cells param))), (0, .box 26 (avs (Cluster.cells c)))] 2 ?_
   exact leZ (by rw [hg1]; first | done | kernel_rfl)
  ·
   refine AOps.hel [.run 1, .len Val.cells vals 3, .run 2] 110 [(1, vs command), (3, .rv (.sl 3 (vals.map Val.cells))), (4, .ptr 0 0), (6, .ptr 1 0), (25, vb (decide (((vals.length : Nat) : Int) > 30)))] [(1, .box 44 (avs (Val.cells param))), (0, .box 26 (avs (Cluster.cells c)))] 2 (fun hl => ?_)
   obtain ⟨hn2, -⟩ := hl
   exact leZ (by rw [hg1]; first | done | kernel_rfl)
 ·
  refine AWp.cnd ((!(smallM c) || decide (((vals.length : Nat) : Int) > 30))) (fun h3 => ?_) (fun h3 => ?_)
  ·
   refine AWp.hz [.call 12 [] (vb true) [] 0 (awake_ok), .run 1] 110 [(8, vb true)] [] 2 ?_
   refine AWp.ret ?_
   exact leafR (r := vb true) (by unfold lClosesM; (try rw [h3]); first | done | kernel_rfl)
  ·
   have h3l := or_fl h3
   have h3r := or_fr h3
   have h3r' := of_decide_eq_false h3r
   refine AWp.skip ?_
   refine AWp.hz [.run 4, .call 21 [.agg (avs (Cluster.cells c)), vs command, .agg (avs (Val.cells param)), .rv (.sl 3 (vals.map Val.cells))] (.tuple [.rv (.sl 3 (((applyM c command param vals).1).map Val.cells)), vi ((applyM c command param vals).2)]) [] 0 (applyM_ok c command param vals (by first | assumption | exact std_fit _ (List.mem_of_getElem? (by assumption)) | exact fit_s1 (by assumption) | exact std_fit | exact fun c hc => std_fit c (List.mem_of_mem_take (List.mem_of_mem_drop hc)) | exact Nat.le_trans (apply_len _ _ _ _) (by omega) | exact parts_fit (by assumption) | exact parts_fit (by assumption) _ (List.mem_of_getElem? (by assumption)) | (simp; done) | exact ⟨by simp, by simp⟩ | exact hw _ (List.mem_of_getElem? (by assumption)) | exact hw.1 _ (List.mem_of_getElem? (by assumption)) | exact (hw.2 _ (List.mem_of_getElem? (by assumption))).1 | exact (hw.2 _ (List.mem_of_getElem? (by assumption))).2 | omega | exact fit_take hw _) (by first | assumption | exact std_fit _ (List.mem_of_getElem? (by assumption)) | exact fit_s1 (by assumption) | exact std_fit | exact fun c hc => std_fit c (List.mem_of_mem_take (List.mem_of_mem_drop hc)) | exact Nat.le_trans (apply_len _ _ _ _) (by omega) | exact parts_fit (by assumption) | exact parts_fit (by assumption) _ (List.mem_of_getElem? (by assumption)) | (simp; done) | exact ⟨by simp, by simp⟩ | exact hw _ (List.mem_of_getElem? (by assumption)) | exact hw.1 _ (List.mem_of_getElem? (by assumption)) | exact (hw.2 _ (List.mem_of_getElem? (by assumption))).1 | exact (hw.2 _ (List.mem_of_getElem? (by assumption))).2 | omega | exact fit_take hw _)), .run 5] 110 [(1, vs command), (3, .rv (.sl 3 (vals.map Val.cells))), (4, .ptr 0 0), (9, .rv (.sl 3 (((applyM c command param vals).1).map Val.cells))), (10, vi ((applyM c command param vals).2))] [(0, .box 26 (avs (Cluster.cells c)))] 2 ?_
   refine AWp.seq ?_
   refine AWp.hz [.run 2] 110 [(1, vs command), (3, .rv (.sl 3 (vals.map Val.cells))), (4, .ptr 0 0), (9, .rv (.sl 3 (((applyM c command param vals).1).map Val.cells))), (36, vb (((applyM c command param vals).2) != 0))] [(0, .box 26 (avs (Cluster.cells c)))] 2 ?_
   refine AWp.cnd ((((applyM c command param vals).2) != 0)) (fun h4 => ?_) (fun h4 => ?_)
   ·
    refine AWp.join (Z 110 [(8, vb (((((applyM c command param vals).1).length : Nat) : Int) == 0))] [] 2) ?_ ?_
    ·
     refine AWp.region ?_
     refine AOps.hzl [.run 1, .len Val.cells ((applyM c command param vals).1) 3, .run 2] 110 [(40, vb (((((applyM c command param vals).1).length : Nat) : Int) == 0))] [] 2 (fun hl => ?_)
     obtain ⟨hn5, -⟩ := hl
     refine AOps.hg [] ((((((applyM c command param vals).1).length : Nat) : Int) == 0)) 110 (fun b_ => [(40, vb b_)]) [] 2 (fun hg6 => ?_) (fun hg6 => ?_)
     ·
      have hg6' := beq_t hg6
      refine AOps.he [.call 12 [] (vb true) [] 0 (awake_ok), .run 2] 110 [(8, vb true)] [] 2 ?_
      exact leZ (by rw [hg6]; first | done | kernel_rfl)
     ·
      have hg6' := beq_f hg6
      refine AOps.he [.run 3] 110 [(8, vb false)] [] 2 ?_
      exact leZ (by rw [hg6]; first | done | kernel_rfl)
    ·
     refine AWp.ret ?_
     exact leafR (r := vb (((((applyM c command param vals).1).length : Nat) : Int) == 0)) (by unfold lClosesM; (try rw [h3]); (try rw [h4]); first | done | kernel_rfl)
   ·
    refine AWp.skip ?_
    refine AWp.seq ?_
    refine AWp.join (Z 110 [(1, vs command), (3, .rv (.sl 3 (vals.map Val.cells))), (4, .ptr 0 0), (9, .rv (.sl 3 (((applyM c command param vals).1).map Val.cells))), (55, vb ((((((applyM c command param vals).1).length : Nat) : Int) != ((c.attrs.length : Nat) : Int)) || (((vals.length : Nat) : Int) != ((((applyM c command param vals).1).length : Nat) : Int))))] [(0, .box 26 (avs (Cluster.cells c)))] 2) ?_ ?_
    ·
     refine AWp.region ?_
     refine AOps.hzl [.run 1, .len Val.cells ((applyM c command param vals).1) 3, .run 2, .len Attr.cells c.attrs 7, .run 2] 110 [(1, vs command), (3, .rv (.sl 3 (vals.map Val.cells))), (4, .ptr 0 0), (9, .rv (.sl 3 (((applyM c command param vals).1).map Val.cells))), (49, vb (((((applyM c command param vals).1).length : Nat) : Int) != ((c.attrs.length : Nat) : Int)))] [(0, .box 26 (avs (Cluster.cells c)))] 2 (fun hl => ?_)
     obtain ⟨hn7, hn8, -⟩ := hl
     refine AOps.hg [] ((((((applyM c command param vals).1).length : Nat) : Int) != ((c.attrs.length : Nat) : Int))) 110 (fun b_ => [(1, vs command), (3, .rv (.sl 3 (vals.map Val.cells))), (4, .ptr 0 0), (9, .rv (.sl 3 (((applyM c command param vals).1).map Val.cells))), (49, vb b_)]) [(0, .box 26 (avs (Cluster.cells c)))] 2 (fun hg9 => ?_) (fun hg9 => ?_)
     ·
      have hg9' := bne_t hg9
      refine AOps.he [.run 6] 110 [(1, vs command), (3, .rv (.sl 3 (vals.map Val.cells))), (4, .ptr 0 0), (9, .rv (.sl 3 (((applyM c command param vals).1).map Val.cells))), (55, vb true)] [(0, .box 26 (avs (Cluster.cells c)))] 2 ?_
      exact leZ (by rw [hg9]; first | done | kernel_rfl)
     ·
      have hg9' := bne_f hg9
      refine AOps.hel [.run 1, .len Val.cells vals 3, .run 1, .len Val.cells ((applyM c command param vals).1) 3, .run 2] 110 [(1, vs command), (3, .rv (.sl 3 (vals.map Val.cells))), (4, .ptr 0 0), (9, .rv (.sl 3 (((applyM c command param vals).1).map Val.cells))), (55, vb (((vals.length : Nat) : Int) != ((((applyM c command param vals).1).length : Nat) : Int)))] [(0, .box 26 (avs (Cluster.cells c)))] 2 (fun hl => ?_)
      obtain ⟨hn10, hn11, -⟩ := hl
      exact leZ (by rw [hg9]; first | done | kernel_rfl)
    ·
     refine AWp.cnd (((((((applyM c command param vals).1).length : Nat) : Int) != ((c.attrs.length : Nat) : Int)) || (((vals.length : Nat) : Int) != ((((applyM c command param vals).1).length : Nat) : Int)))) (fun h12 => ?_) (fun h12 => ?_)
     ·
      refine AWp.hz [.run 1] 110 [(8, vb false)] [] 2 ?_
      refine AWp.ret ?_
      exact leafR (r := vb false) (by unfold lClosesM; (try rw [h3]); (try rw [h4]); (try rw [h12]); first | done | kernel_rfl)
     ·
      have h12l := or_fl h12
      have h12l' := bne_f h12l
      have h12r := or_fr h12
      have h12r' := bne_f h12r
      refine AWp.skip ?_
      refine AWp.hz [.run 2, .call 18 [.agg (avs (Cluster.cells c)), vs command] (.tuple [.agg (avs (Command.cells ((commandM c command).1))), vb ((commandM c command).2)]) [] 0 (commandM_ok c command (by first | assumption | exact std_fit _ (List.mem_of_getElem? (by assumption)) | exact fit_s1 (by assumption) | exact std_fit | exact fun c hc => std_fit c (List.mem_of_mem_take (List.mem_of_mem_drop hc)) | exact Nat.le_trans (apply_len _ _ _ _) (by omega) | exact parts_fit (by assumption) | exact parts_fit (by assumption) _ (List.mem_of_getElem? (by assumption)) | (simp; done) | exact ⟨by simp, by simp⟩ | exact hw _ (List.mem_of_getElem? (by assumption)) | exact hw.1 _ (List.mem_of_getElem? (by assumption)) | exact (hw.2 _ (List.mem_of_getElem? (by assumption))).1 | exact (hw.2 _ (List.mem_of_getElem? (by assumption))).2 | omega | exact fit_take hw _)), .run 6] 110 [(3, .rv (.sl 3 (vals.map Val.cells))), (4, .ptr 0 0), (9, .rv (.sl 3 (((applyM c command param vals).1).map Val.cells))), (11, .ptr 2 0), (12, vb ((commandM c command).2))] [(2, .box 38 (avs (Command.cells ((commandM c command).1)))), (0, .box 26 (avs (Cluster.cells c)))] 3 ?_
      refine AWp.seq ?_
      refine AWp.hz [.run 2] 110 [(3, .rv (.sl 3 (vals.map Val.cells))), (4, .ptr 0 0), (9, .rv (.sl 3 (((applyM c command param vals).1).map Val.cells))), (11, .ptr 2 0), (63, vb (!((commandM c command).2)))] [(2, .box 38 (avs (Command.cells ((commandM c command).1)))), (0, .box 26 (avs (Cluster.cells c)))] 3 ?_
      refine AWp.cnd (!((commandM c command).2)) (fun h13 => ?_) (fun h13 => ?_)
      ·
       refine AWp.hz [.run 1] 110 [(8, vb false)] [] 3 ?_
       refine AWp.ret ?_
       exact leafR (r := vb false) (by unfold lClosesM; (try rw [h3]); (try rw [h4]); (try rw [h12]); (try rw [h13]); first | done | kernel_rfl)
      ·
       refine AWp.skip ?_
       refine AWp.seq ?_
       refine AWp.hzl [.run 2, .len Attr.cells c.attrs 7, .run 1] 110 [(3, .rv (.sl 3 (vals.map Val.cells))), (9, .rv (.sl 3 (((applyM c command param vals).1).map Val.cells))), (11, .ptr 2 0), (65, .rv (.sl 7 (c.attrs.map Attr.cells))), (66, vi ((c.attrs.length : Nat) : Int)), (67, vi 0)] [(2, .box 38 (avs (Command.cells ((commandM c command).1))))] 3 (fun hl => ?_)
       obtain ⟨hn14, -⟩ := hl
       refine AWp.block ?_
       refine AWp.loop (ι := Nat) (fun k1_ => Z 110 [(3, .rv (.sl 3 (vals.map Val.cells))), (9, .rv (.sl 3 (((applyM c command param vals).1).map Val.cells))), (11, .ptr 2 0), (65, .rv (.sl 7 (c.attrs.map Attr.cells))), (66, vi ((c.attrs.length : Nat) : Int)), (67, vi ((k1_ : Nat) : Int))] [(2, .box 38 (avs (Command.cells ((commandM c command).1))))] 3) (fun k1_ => k1_ ≤ c.attrs.length ∧ lClosesM_L1 c command param vals = scanN (lClosesM_B1 c command param vals) k1_ (c.attrs.length - k1_)) (fun k1_ => c.attrs.length - k1_) 0 leZ ⟨Nat.zero_le _, rfl⟩ ?_
       intro k1_ ⟨hk1_, hs1_⟩
       refine AWp.hz [.run 1] 110 [(3, .rv (.sl 3 (vals.map Val.cells))), (9, .rv (.sl 3 (((applyM c command param vals).1).map Val.cells))), (11, .ptr 2 0), (65, .rv (.sl 7 (c.attrs.map Attr.cells))), (66, vi ((c.attrs.length : Nat) : Int)), (67, vi ((k1_ : Nat) : Int)), (68, vb (decide (((k1_ : Nat) : Int) < ((c.attrs.length : Nat) : Int))))] [(2, .box 38 (avs (Command.cells ((commandM c command).1))))] 3 ?_
       refine AWp.seq ?_
       refine AWp.cnd (decide (((k1_ : Nat) : Int) < ((c.attrs.length : Nat) : Int))) (fun h15 => ?_) (fun h15 => ?_)
       ·
        have h15' := of_decide_eq_true h15
        refine AWp.skip ?_
        refine AWp.seq ?_
        refine AWp.block ?_
        obtain ⟨e1_, he1_⟩ : ∃ e_, (c.attrs)[k1_]? = some e_ := ⟨_, List.getElem?_eq_getElem (by omega)⟩
        refine AWp.hz [.run 1, .idx Attr.cells c.attrs 7 k1_ e1_ he1_, .run 4] 110 [(3, .rv (.sl 3 (vals.map Val.cells))), (9, .rv (.sl 3 (((applyM c command param vals).1).map Val.cells))), (11, .ptr 2 0), (13, vi ((k1_ : Nat) : Int)), (14, .ptr 3 0), (65, .rv (.sl 7 (c.attrs.map Attr.cells))), (66, vi ((c.attrs.length : Nat) : Int)), (67, vi ((k1_ : Nat) : Int))] [(3, .box 32 (avs (Attr.cells e1_))), (2, .box 38 (avs (Command.cells ((commandM c command).1))))] 4 ?_
        refine AWp.seq ?_
        obtain ⟨e2_, he2_⟩ : ∃ e_, ((applyM c command param vals).1)[k1_]? = some e_ := ⟨_, List.getElem?_eq_getElem (by omega)⟩
        refine AWp.dz [.agg (avs (Attr.cells e1_)), .rv (.sl 3 (((applyM c command param vals).1).map Val.cells)), vi ((k1_ : Nat) : Int), .rv (.ptr (Val.cells e2_)), .agg (avs (Val.cells e2_)), vi (fitsM e1_ e2_), vb (fitsM e1_ e2_ != 0)] 110 [(3, .rv (.sl 3 (vals.map Val.cells))), (9, .rv (.sl 3 (((applyM c command param vals).1).map Val.cells))), (11, .ptr 2 0), (13, vi ((k1_ : Nat) : Int)), (14, .ptr 3 0), (65, .rv (.sl 7 (c.attrs.map Attr.cells))), (66, vi ((c.attrs.length : Nat) : Int)), (67, vi ((k1_ : Nat) : Int)), (78, vb (fitsM e1_ e2_ != 0))] [(3, .box 32 (avs (Attr.cells e1_))), (2, .box 38 (avs (Command.cells ((commandM c command).1))))] 4 ?_ ?_
        ·
         refine DSteps.cons (DStep.va) ?_
         refine DSteps.cons (DStep.va) ?_
         refine DSteps.cons (DStep.va) ?_
         refine DSteps.cons (DStep.vs (by kernel_rfl) (R_indexAddrM Val.cells ((applyM c command param vals).1) 3 k1_ rfl (by kernel_rfl) (by kernel_rfl) (by kernel_rfl) he2_)) ?_
         refine DSteps.cons (DStep.va) ?_
         refine DSteps.cons (DStep.call rfl (by kernel_rfl) (by kernel_rfl) (by kernel_rfl) (args := [.agg (avs (Attr.cells e1_)), .agg (avs (Val.cells e2_))]) (by kernel_rfl) (by kernel_rfl) (fitsM_ok e1_ e2_) (by kernel_rfl) (Nat.le_of_ble_eq_true (by kernel_rfl))) ?_
         refine DSteps.cons (DStep.va) ?_
         exact DSteps.nl
        refine AWp.cnd ((fitsM e1_ e2_ != 0)) (fun h16 => ?_) (fun h16 => ?_)
        ·
         refine AWp.hz [.run 1] 110 [(8, vb false)] [] 4 ?_
         refine AWp.ret ?_
         have hL1_ : lClosesM_L1 c command param vals = some false := scanN_some hs1_ (by omega) (by unfold lClosesM_B1; (try simp only [he1_]); (try simp only [he2_]); (try rw [h15]); (try rw [h16]); first | done | kernel_rfl)
         exact leafR (r := vb false) (by unfold lClosesM; (try rw [h3]); (try rw [h4]); (try rw [h12]); (try rw [h13]); (try rw [hL1_]); first | done | kernel_rfl)
        ·
         refine AWp.skip ?_
         refine AWp.hz [.run 1] 110 [(3, .rv (.sl 3 (vals.map Val.cells))), (9, .rv (.sl 3 (((applyM c command param vals).1).map Val.cells))), (11, .ptr 2 0), (13, vi ((k1_ : Nat) : Int)), (14, .ptr 3 0), (15, vb false), (65, .rv (.sl 7 (c.attrs.map Attr.cells))), (66, vi ((c.attrs.length : Nat) : Int)), (67, vi ((k1_ : Nat) : Int))] [(3, .box 32 (avs (Attr.cells e1_))), (2, .box 38 (avs (Command.cells ((commandM c command).1))))] 4 ?_
         refine AWp.seq ?_
         refine AWp.hzl [.run 2, .len Effect.cells (((commandM c command).1).effects) 3, .run 1] 110 [(3, .rv (.sl 3 (vals.map Val.cells))), (9, .rv (.sl 3 (((applyM c command param vals).1).map Val.cells))), (11, .ptr 2 0), (13, vi ((k1_ : Nat) : Int)), (14, .ptr 3 0), (15, vb false), (65, .rv (.sl 7 (c.attrs.map Attr.cells))), (66, vi ((c.attrs.length : Nat) : Int)), (67, vi ((k1_ : Nat) : Int)), (80, .rv (.sl 3 ((((commandM c command).1).effects).map Effect.cells))), (81, vi (((((commandM c command).1).effects).length : Nat) : Int)), (82, vi 0)] [(3, .box 32 (avs (Attr.cells e1_))), (2, .box 38 (avs (Command.cells ((commandM c command).1))))] 4 (fun hl => ?_)
         obtain ⟨hn17, -⟩ := hl
         refine AWp.joinE1 (A := Bool) (fun x_ => Z 110 [(3, .rv (.sl 3 (vals.map Val.cells))), (9, .rv (.sl 3 (((applyM c command param vals).1).map Val.cells))), (11, .ptr 2 0), (13, vi ((k1_ : Nat) : Int)), (15, vb x_), (65, .rv (.sl 7 (c.attrs.map Attr.cells))), (66, vi ((c.attrs.length : Nat) : Int)), (67, vi ((k1_ : Nat) : Int))] [(2, .box 38 (avs (Command.cells ((commandM c command).1))))] 4) (fun x_ => x_ = (lClosesM_L2 c command param vals e1_ (false))) ?_ ?_
         ·
          refine AWp.block ?_
          refine AWp.loop (ι := Nat × (Bool)) (fun x_ => Z 110 [(3, .rv (.sl 3 (vals.map Val.cells))), (9, .rv (.sl 3 (((applyM c command param vals).1).map Val.cells))), (11, .ptr 2 0), (13, vi ((k1_ : Nat) : Int)), (14, .ptr 3 0), (15, vb x_.2), (65, .rv (.sl 7 (c.attrs.map Attr.cells))), (66, vi ((c.attrs.length : Nat) : Int)), (67, vi ((k1_ : Nat) : Int)), (80, .rv (.sl 3 ((((commandM c command).1).effects).map Effect.cells))), (81, vi (((((commandM c command).1).effects).length : Nat) : Int)), (82, vi ((x_.1 : Nat) : Int))] [(3, .box 32 (avs (Attr.cells e1_))), (2, .box 38 (avs (Command.cells ((commandM c command).1))))] 4) (fun x_ => x_.1 ≤ ((((commandM c command).1).effects).length) ∧ (lClosesM_L2 c command param vals e1_ (false)) = iterN (lClosesM_B2 c command param vals e1_) x_.1 (((((commandM c command).1).effects).length) - x_.1) x_.2) (fun x_ => ((((commandM c command).1).effects).length) - x_.1) (0, (false)) leZ ⟨Nat.zero_le _, rfl⟩ ?_
          rintro ⟨k2_, a2_0⟩ ⟨hk2_, hs2_⟩
          try dsimp only at hk2_
          try dsimp only at hs2_
          refine AWp.cv 110 [(3, .rv (.sl 3 (vals.map Val.cells))), (9, .rv (.sl 3 (((applyM c command param vals).1).map Val.cells))), (11, .ptr 2 0), (13, vi ((k1_ : Nat) : Int)), (14, .ptr 3 0), (15, vb a2_0), (65, .rv (.sl 7 (c.attrs.map Attr.cells))), (66, vi ((c.attrs.length : Nat) : Int)), (67, vi ((k1_ : Nat) : Int)), (80, .rv (.sl 3 ((((commandM c command).1).effects).map Effect.cells))), (81, vi (((((commandM c command).1).effects).length : Nat) : Int)), (82, vi ((k2_ : Nat) : Int))] [(3, .box 32 (avs (Attr.cells e1_))), (2, .box 38 (avs (Command.cells ((commandM c command).1))))] 4 ?_
          refine AWp.hz [.run 1] 110 [(3, .rv (.sl 3 (vals.map Val.cells))), (9, .rv (.sl 3 (((applyM c command param vals).1).map Val.cells))), (11, .ptr 2 0), (13, vi ((k1_ : Nat) : Int)), (14, .ptr 3 0), (15, vb a2_0), (65, .rv (.sl 7 (c.attrs.map Attr.cells))), (66, vi ((c.attrs.length : Nat) : Int)), (67, vi ((k1_ : Nat) : Int)), (80, .rv (.sl 3 ((((commandM c command).1).effects).map Effect.cells))), (81, vi (((((commandM c command).1).effects).length : Nat) : Int)), (82, vi ((k2_ : Nat) : Int)), (83, vb (decide (((k2_ : Nat) : Int) < (((((commandM c command).1).effects).length : Nat) : Int))))] [(3, .box 32 (avs (Attr.cells e1_))), (2, .box 38 (avs (Command.cells ((commandM c command).1))))] 4 ?_
          refine AWp.seq ?_
          refine AWp.cnd (decide (((k2_ : Nat) : Int) < (((((commandM c command).1).effects).length : Nat) : Int))) (fun h18 => ?_) (fun h18 => ?_)
          ·
           have h18' := of_decide_eq_true h18
           refine AWp.skip ?_
           refine AWp.seq ?_
           refine AWp.block ?_
           obtain ⟨e3_, he3_⟩ : ∃ e_, (((commandM c command).1).effects)[k2_]? = some e_ := ⟨_, List.getElem?_eq_getElem (by omega)⟩
           refine AWp.hz [.idx Effect.cells (((commandM c command).1).effects) 3 k2_ e3_ he3_, .run 3] 110 [(3, .rv (.sl 3 (vals.map Val.cells))), (9, .rv (.sl 3 (((applyM c command param vals).1).map Val.cells))), (11, .ptr 2 0), (13, vi ((k1_ : Nat) : Int)), (14, .ptr 3 0), (15, vb a2_0), (17, .ptr 4 0), (65, .rv (.sl 7 (c.attrs.map Attr.cells))), (66, vi ((c.attrs.length : Nat) : Int)), (67, vi ((k1_ : Nat) : Int)), (80, .rv (.sl 3 ((((commandM c command).1).effects).map Effect.cells))), (81, vi (((((commandM c command).1).effects).length : Nat) : Int)), (82, vi ((k2_ : Nat) : Int))] [(4, .box 52 (avs (Effect.cells e3_))), (3, .box 32 (avs (Attr.cells e1_))), (2, .box 38 (avs (Command.cells ((commandM c command).1))))] 5 ?_
           refine AWp.region ?_
           refine AOps.hg [.run 2] (a2_0) 110 (fun b_ => [(3, .rv (.sl 3 (vals.map Val.cells))), (9, .rv (.sl 3 (((applyM c command param vals).1).map Val.cells))), (11, .ptr 2 0), (13, vi ((k1_ : Nat) : Int)), (14, .ptr 3 0), (17, .ptr 4 0), (65, .rv (.sl 7 (c.attrs.map Attr.cells))), (66, vi ((c.attrs.length : Nat) : Int)), (67, vi ((k1_ : Nat) : Int)), (80, .rv (.sl 3 ((((commandM c command).1).effects).map Effect.cells))), (81, vi (((((commandM c command).1).effects).length : Nat) : Int)), (82, vi ((k2_ : Nat) : Int)), (87, vb b_)]) [(4, .box 52 (avs (Effect.cells e3_))), (3, .box 32 (avs (Attr.cells e1_))), (2, .box 38 (avs (Command.cells ((commandM c command).1))))] 5 (fun hg19 => ?_) (fun hg19 => ?_)
           ·
            refine AOps.he [.run 7] 110 [(3, .rv (.sl 3 (vals.map Val.cells))), (9, .rv (.sl 3 (((applyM c command param vals).1).map Val.cells))), (11, .ptr 2 0), (13, vi ((k1_ : Nat) : Int)), (14, .ptr 3 0), (15, vb true), (65, .rv (.sl 7 (c.attrs.map Attr.cells))), (66, vi ((c.attrs.length : Nat) : Int)), (67, vi ((k1_ : Nat) : Int)), (80, .rv (.sl 3 ((((commandM c command).1).effects).map Effect.cells))), (81, vi (((((commandM c command).1).effects).length : Nat) : Int)), (82, vi ((k2_ : Nat) : Int))] [(3, .box 32 (avs (Attr.cells e1_))), (2, .box 38 (avs (Command.cells ((commandM c command).1))))] 5 ?_
            refine AWp.he [.cast (vi (IntKind.i64.wrap (((k2_ : Nat) : Int) + 1))) (vi ((k2_ + 1 : Nat) : Int)) (congrArg vi (wrap_nat (by omega))), .run 1] 110 [(3, .rv (.sl 3 (vals.map Val.cells))), (9, .rv (.sl 3 (((applyM c command param vals).1).map Val.cells))), (11, .ptr 2 0), (13, vi ((k1_ : Nat) : Int)), (14, .ptr 3 0), (15, vb true), (65, .rv (.sl 7 (c.attrs.map Attr.cells))), (66, vi ((c.attrs.length : Nat) : Int)), (67, vi ((k1_ : Nat) : Int)), (80, .rv (.sl 3 ((((commandM c command).1).effects).map Effect.cells))), (81, vi (((((commandM c command).1).effects).length : Nat) : Int)), (82, vi ((k2_ + 1 : Nat) : Int))] [(3, .box 32 (avs (Attr.cells e1_))), (2, .box 38 (avs (Command.cells ((commandM c command).1))))] 5 ?_
            exact ⟨(k2_ + 1, (true)), ⟨by show k2_ + 1 ≤ _; omega, iterN_next hs2_ (by omega) (by unfold lClosesM_B2; (try dsimp only); (try simp only [he1_]); (try simp only [he2_]); (try simp only [he3_]); (try rw [h18]); (try rw [hg19]); first | done | kernel_rfl)⟩, by show _ - (k2_ + 1) < _ - k2_; omega, leG⟩
           ·
            refine AOps.he [.run 7] 110 [(3, .rv (.sl 3 (vals.map Val.cells))), (9, .rv (.sl 3 (((applyM c command param vals).1).map Val.cells))), (11, .ptr 2 0), (13, vi ((k1_ : Nat) : Int)), (14, .ptr 3 0), (15, vb (beqS e3_.attr e1_.name)), (65, .rv (.sl 7 (c.attrs.map Attr.cells))), (66, vi ((c.attrs.length : Nat) : Int)), (67, vi ((k1_ : Nat) : Int)), (80, .rv (.sl 3 ((((commandM c command).1).effects).map Effect.cells))), (81, vi (((((commandM c command).1).effects).length : Nat) : Int)), (82, vi ((k2_ : Nat) : Int))] [(3, .box 32 (avs (Attr.cells e1_))), (2, .box 38 (avs (Command.cells ((commandM c command).1))))] 5 ?_
            refine AWp.he [.cast (vi (IntKind.i64.wrap (((k2_ : Nat) : Int) + 1))) (vi ((k2_ + 1 : Nat) : Int)) (congrArg vi (wrap_nat (by omega))), .run 1] 110 [(3, .rv (.sl 3 (vals.map Val.cells))), (9, .rv (.sl 3 (((applyM c command param vals).1).map Val.cells))), (11, .ptr 2 0), (13, vi ((k1_ : Nat) : Int)), (14, .ptr 3 0), (15, vb (beqS e3_.attr e1_.name)), (65, .rv (.sl 7 (c.attrs.map Attr.cells))), (66, vi ((c.attrs.length : Nat) : Int)), (67, vi ((k1_ : Nat) : Int)), (80, .rv (.sl 3 ((((commandM c command).1).effects).map Effect.cells))), (81, vi (((((commandM c command).1).effects).length : Nat) : Int)), (82, vi ((k2_ + 1 : Nat) : Int))] [(3, .box 32 (avs (Attr.cells e1_))), (2, .box 38 (avs (Command.cells ((commandM c command).1))))] 5 ?_
            exact ⟨(k2_ + 1, (beqS e3_.attr e1_.name)), ⟨by show k2_ + 1 ≤ _; omega, iterN_next hs2_ (by omega) (by unfold lClosesM_B2; (try dsimp only); (try simp only [he1_]); (try simp only [he2_]); (try simp only [he3_]); (try rw [h18]); (try rw [hg19]); first | done | kernel_rfl)⟩, by show _ - (k2_ + 1) < _ - k2_; omega, leG⟩
          ·
           have h18' := of_decide_eq_false h18
           refine AWp.exit ?_
           have hq2_ : (a2_0) = (lClosesM_L2 c command param vals e1_ (false)) := iterN_end hs2_ (by omega)
           exact ⟨(a2_0), hq2_, leG⟩
         ·
          rintro _ rfl
          refine AWp.split (!(lClosesM_L2 c command param vals e1_ (false))) (fun h20 => ?_) (fun h20 => ?_)
          ·
           obtain ⟨e4_, he4_⟩ : ∃ e_, (vals)[k1_]? = some e_ := ⟨_, List.getElem?_eq_getElem (by omega)⟩
           refine AWp.dz [vb (lClosesM_L2 c command param vals e1_ (false)), vb true, vb true, .rv (.sl 3 (((applyM c command param vals).1).map Val.cells)), vi ((k1_ : Nat) : Int), .rv (.ptr (Val.cells e2_)), .agg (avs (Val.cells e2_)), .rv (.sl 3 (vals.map Val.cells)), vi ((k1_ : Nat) : Int), .rv (.ptr (Val.cells e4_)), .agg (avs (Val.cells e4_)), vb (!((e2_.kind == e4_.kind) && ((e2_.n == e4_.n) && (beqS e2_.s e4_.s && true)))), vb (!((e2_.kind == e4_.kind) && ((e2_.n == e4_.n) && (beqS e2_.s e4_.s && true))))] 110 [(3, .rv (.sl 3 (vals.map Val.cells))), (9, .rv (.sl 3 (((applyM c command param vals).1).map Val.cells))), (11, .ptr 2 0), (65, .rv (.sl 7 (c.attrs.map Attr.cells))), (66, vi ((c.attrs.length : Nat) : Int)), (67, vi ((k1_ : Nat) : Int)), (107, vb (!((e2_.kind == e4_.kind) && ((e2_.n == e4_.n) && (beqS e2_.s e4_.s && true)))))] [(2, .box 38 (avs (Command.cells ((commandM c command).1))))] 4 ?_ ?_
           ·
            refine DSteps.cons (DStep.va) ?_
            refine DSteps.cons ((DStep.val (v := vb (!(lClosesM_L2 c command param vals e1_ (false)))) (by kernel_rfl) (by kernel_rfl)).cast (congrArg vb h20)) ?_
            refine DSteps.cons (DStep.va) ?_
            refine DSteps.cons (DStep.va) ?_
            refine DSteps.cons (DStep.va) ?_
            refine DSteps.cons (DStep.vs (by kernel_rfl) (R_indexAddrM Val.cells ((applyM c command param vals).1) 3 k1_ rfl (by kernel_rfl) (by kernel_rfl) (by kernel_rfl) he2_)) ?_
            refine DSteps.cons (DStep.va) ?_
            refine DSteps.cons (DStep.va) ?_
            refine DSteps.cons (DStep.va) ?_
            refine DSteps.cons (DStep.vs (by kernel_rfl) (R_indexAddrM Val.cells vals 3 k1_ rfl (by kernel_rfl) (by kernel_rfl) (by kernel_rfl) he4_)) ?_
            refine DSteps.cons (DStep.va) ?_
            refine DSteps.cons (DStep.va) ?_
            refine DSteps.cons (DStep.va) ?_
            exact DSteps.nl
           refine AWp.cnd (!((e2_.kind == e4_.kind) && ((e2_.n == e4_.n) && (beqS e2_.s e4_.s && true)))) (fun h21 => ?_) (fun h21 => ?_)
           ·
            refine AWp.hz [.run 1] 110 [(8, vb false)] [] 4 ?_
            refine AWp.ret ?_
            have hL1_ : lClosesM_L1 c command param vals = some false := scanN_some hs1_ (by omega) (by unfold lClosesM_B1; (try simp only [he1_]); (try simp only [he2_]); (try simp only [he4_]); (try rw [h15]); (try rw [h16]); (try rw [h20]); (try rw [h21]); first | done | kernel_rfl)
            exact leafR (r := vb false) (by unfold lClosesM; (try rw [h3]); (try rw [h4]); (try rw [h12]); (try rw [h13]); (try rw [hL1_]); first | done | kernel_rfl)
           ·
            refine AWp.skip ?_
            refine AWp.he [.cast (vi (IntKind.i64.wrap (((k1_ : Nat) : Int) + 1))) (vi ((k1_ + 1 : Nat) : Int)) (congrArg vi (wrap_nat (by omega))), .run 1] 110 [(3, .rv (.sl 3 (vals.map Val.cells))), (9, .rv (.sl 3 (((applyM c command param vals).1).map Val.cells))), (11, .ptr 2 0), (65, .rv (.sl 7 (c.attrs.map Attr.cells))), (66, vi ((c.attrs.length : Nat) : Int)), (67, vi ((k1_ + 1 : Nat) : Int))] [(2, .box 38 (avs (Command.cells ((commandM c command).1))))] 4 ?_
            exact ⟨k1_ + 1, ⟨by omega, scanN_none hs1_ (by omega) (by unfold lClosesM_B1; (try simp only [he1_]); (try simp only [he2_]); (try simp only [he4_]); (try rw [h15]); (try rw [h16]); (try rw [h20]); (try rw [h21]); first | done | kernel_rfl)⟩, by omega, leG⟩
          ·
           refine AWp.dz [vb (lClosesM_L2 c command param vals e1_ (false)), vb false, vb false, .tuple [], .tuple [], .tuple [], .tuple [], .tuple [], .tuple [], .tuple [], .tuple [], .tuple [], vb false] 110 [(3, .rv (.sl 3 (vals.map Val.cells))), (9, .rv (.sl 3 (((applyM c command param vals).1).map Val.cells))), (11, .ptr 2 0), (65, .rv (.sl 7 (c.attrs.map Attr.cells))), (66, vi ((c.attrs.length : Nat) : Int)), (67, vi ((k1_ : Nat) : Int)), (107, vb false)] [(2, .box 38 (avs (Command.cells ((commandM c command).1))))] 4 ?_ ?_
           ·
            refine DSteps.cons (DStep.va) ?_
            refine DSteps.cons ((DStep.val (v := vb (!(lClosesM_L2 c command param vals e1_ (false)))) (by kernel_rfl) (by kernel_rfl)).cast (congrArg vb h20)) ?_
            refine DSteps.cons (DStep.va) ?_
            refine DSteps.cons (DStep.skip (by kernel_rfl)) ?_
            refine DSteps.cons (DStep.skip (by kernel_rfl)) ?_
            refine DSteps.cons (DStep.skip (by kernel_rfl)) ?_
            refine DSteps.cons (DStep.skip (by kernel_rfl)) ?_
            refine DSteps.cons (DStep.skip (by kernel_rfl)) ?_
            refine DSteps.cons (DStep.skip (by kernel_rfl)) ?_
            refine DSteps.cons (DStep.skip (by kernel_rfl)) ?_
            refine DSteps.cons (DStep.skip (by kernel_rfl)) ?_
            refine DSteps.cons (DStep.skip (by kernel_rfl)) ?_
            refine DSteps.cons (DStep.va) ?_
            exact DSteps.nl
           refine AWp.cndF ?_
           refine AWp.skip ?_
           refine AWp.he [.cast (vi (IntKind.i64.wrap (((k1_ : Nat) : Int) + 1))) (vi ((k1_ + 1 : Nat) : Int)) (congrArg vi (wrap_nat (by omega))), .run 1] 110 [(3, .rv (.sl 3 (vals.map Val.cells))), (9, .rv (.sl 3 (((applyM c command param vals).1).map Val.cells))), (11, .ptr 2 0), (65, .rv (.sl 7 (c.attrs.map Attr.cells))), (66, vi ((c.attrs.length : Nat) : Int)), (67, vi ((k1_ + 1 : Nat) : Int))] [(2, .box 38 (avs (Command.cells ((commandM c command).1))))] 4 ?_
           exact ⟨k1_ + 1, ⟨by omega, scanN_none hs1_ (by omega) (by unfold lClosesM_B1; (try simp only [he1_]); (try simp only [he2_]); (try rw [h15]); (try rw [h16]); (try rw [h20]); first | done | kernel_rfl)⟩, by omega, leG⟩
       ·
        have h15' := of_decide_eq_false h15
        refine AWp.exit ?_
        have hL1_ : lClosesM_L1 c command param vals = none := scanN_end hs1_ (by omega)
        refine AWp.hz [.call 12 [] (vb true) [] 0 (awake_ok), .run 1] 110 [(8, vb true)] [] 3 ?_
        refine AWp.ret ?_
        exact leafR (r := vb true) (by unfold lClosesM; (try rw [h3]); (try rw [h4]); (try rw [h12]); (try rw [h13]); (try rw [hL1_]); first | done | kernel_rfl)
def lRepeatsM_B1 (c : Cluster) (command : ByteArray) (param : Val) (vals : List Val) (k1_ : Nat) : Option Bool :=
  (match (((commandM c command).1).effects)[k1_]? with | some e1_ => (bif ((e1_.kind != 1) && (e1_.kind != 2)) then some true else none) | none => none)
def lRepeatsM_L1 (c : Cluster) (command : ByteArray) (param : Val) (vals : List Val) : Option Bool := scanN (lRepeatsM_B1 c command param vals) 0 ((((commandM c command).1).effects).length)
def lRepeatsM (c : Cluster) (command : ByteArray) (param : Val) (vals : List Val) : Bool :=
  ((!(smallM c) || decide (((vals.length : Nat) : Int) > 30)) || (lRepeatsM_L1 c command param vals).getD ((((applyM c command param vals).2) != 0) || ((((applyM c command param ((applyM c command param vals).1)).2) == 0) && sameValuesM ((applyM c command param vals).1) ((applyM c command param ((applyM c command param vals).1)).1))))
theorem lRepeatsM_ok (c : Cluster) (command : ByteArray) (param : Val) (vals : List Val) :
 ACalls Tryd.prog G_ 7 [.agg (avs (Cluster.cells c)), vs command, .agg (avs (Val.cells param)), .rv (.sl 3 (vals.map Val.cells))] [] 0 (fun r τ => r = vb (lRepeatsM c command param vals) ∧ τ = []) := by
 refine ACalls.body Tryd.func7 rfl 77 [(0, .agg (avs (Cluster.cells c))), (1, vs command), (2, .agg (avs (Val.cells param))), (3, .rv (.sl 3 (vals.map Val.cells)))] ?_
 refine AWp.hz [.run 3] 77 [(1, vs command), (3, .rv (.sl 3 (vals.map Val.cells))), (4, .ptr 0 0), (6, .ptr 1 0)] [(1, .box 44 (avs (Val.cells param))), (0, .box 26 (avs (Cluster.cells c)))] 2 ?_
 refine AWp.seq ?_
 refine AWp.join (Z 77 [(1, vs command), (3, .rv (.sl 3 (vals.map Val.cells))), (4, .ptr 0 0), (6, .ptr 1 0), (23, vb (!(smallM c) || decide (((vals.length : Nat) : Int) > 30)))] [(1, .box 44 (avs (Val.cells param))), (0, .box 26 (avs (Cluster.cells c)))] 2) ?_ ?_
 ·
  refine AWp.region ?_
  refine AOps.hg [.run 1, .call 11 [.agg (avs (Cluster.cells c))] (vb (smallM c)) [] 0 (smallM_ok c), .run 2] (!(smallM c)) 77 (fun b_ => [(1, vs command), (3, .rv (.sl 3 (vals.map Val.cells))), (4, .ptr 0 0), (6, .ptr 1 0), (19, vb b_)]) [(1, .box 44 (avs (Val.cells param))), (0, .box 26 (avs (Cluster.cells c)))] 2 (fun hg1 => ?_) (fun hg1 => ?_)
  ·
   refine AOps.he [.run 4] 77 [(1, vs command), (3, .rv (.sl 3 (vals.map Val.cells))), (4, .ptr 0 0), (6, .ptr 1 0), (23, vb true)] [(1, .box 44 (avs (Val.cells param))), (0, .box 26 (avs (Cluster.cells c)))] 2 ?_
   exact leZ (by rw [hg1]; first | done | kernel_rfl)
  ·
   refine AOps.hel [.run 1, .len Val.cells vals 3, .run 2] 77 [(1, vs command), (3, .rv (.sl 3 (vals.map Val.cells))), (4, .ptr 0 0), (6, .ptr 1 0), (23, vb (decide (((vals.length : Nat) : Int) > 30)))] [(1, .box 44 (avs (Val.cells param))), (0, .box 26 (avs (Cluster.cells c)))] 2 (fun hl => ?_)
   obtain ⟨hn2, -⟩ := hl
   exact leZ (by rw [hg1]; first | done | kernel_rfl)
 ·
  refine AWp.cnd ((!(smallM c) || decide (((vals.length : Nat) : Int) > 30))) (fun h3 => ?_) (fun h3 => ?_)
  ·
   refine AWp.hz [.call 12 [] (vb true) [] 0 (awake_ok), .run 1] 77 [(8, vb true)] [] 2 ?_
   refine AWp.ret ?_
   exact leafR (r := vb true) (by unfold lRepeatsM; (try rw [h3]); first | done | kernel_rfl)
  ·
   have h3l := or_fl h3
   have h3r := or_fr h3
   have h3r' := of_decide_eq_false h3r
   refine AWp.skip ?_
   refine AWp.hz [.run 2, .call 18 [.agg (avs (Cluster.cells c)), vs command] (.tuple [.agg (avs (Command.cells ((commandM c command).1))), vb ((commandM c command).2)]) [] 0 (commandM_ok c command (by first | assumption | exact std_fit _ (List.mem_of_getElem? (by assumption)) | exact fit_s1 (by assumption) | exact std_fit | exact fun c hc => std_fit c (List.mem_of_mem_take (List.mem_of_mem_drop hc)) | exact Nat.le_trans (apply_len _ _ _ _) (by omega) | exact parts_fit (by assumption) | exact parts_fit (by assumption) _ (List.mem_of_getElem? (by assumption)) | (simp; done) | exact ⟨by simp, by simp⟩ | exact hw _ (List.mem_of_getElem? (by assumption)) | exact hw.1 _ (List.mem_of_getElem? (by assumption)) | exact (hw.2 _ (List.mem_of_getElem? (by assumption))).1 | exact (hw.2 _ (List.mem_of_getElem? (by assumption))).2 | omega | exact fit_take hw _)), .run 6] 77 [(1, vs command), (3, .rv (.sl 3 (vals.map Val.cells))), (4, .ptr 0 0), (6, .ptr 1 0), (9, .ptr 2 0)] [(2, .box 38 (avs (Command.cells ((commandM c command).1)))), (1, .box 44 (avs (Val.cells param))), (0, .box 26 (avs (Cluster.cells c)))] 3 ?_
   refine AWp.seq ?_
   refine AWp.hzl [.run 2, .len Effect.cells (((commandM c command).1).effects) 3, .run 1] 77 [(1, vs command), (3, .rv (.sl 3 (vals.map Val.cells))), (4, .ptr 0 0), (6, .ptr 1 0), (32, .rv (.sl 3 ((((commandM c command).1).effects).map Effect.cells))), (33, vi (((((commandM c command).1).effects).length : Nat) : Int)), (34, vi 0)] [(1, .box 44 (avs (Val.cells param))), (0, .box 26 (avs (Cluster.cells c)))] 3 (fun hl => ?_)
   obtain ⟨hn4, -⟩ := hl
   refine AWp.block ?_
   refine AWp.loop (ι := Nat) (fun k1_ => Z 77 [(1, vs command), (3, .rv (.sl 3 (vals.map Val.cells))), (4, .ptr 0 0), (6, .ptr 1 0), (32, .rv (.sl 3 ((((commandM c command).1).effects).map Effect.cells))), (33, vi (((((commandM c command).1).effects).length : Nat) : Int)), (34, vi ((k1_ : Nat) : Int))] [(1, .box 44 (avs (Val.cells param))), (0, .box 26 (avs (Cluster.cells c)))] 3) (fun k1_ => k1_ ≤ ((((commandM c command).1).effects).length) ∧ lRepeatsM_L1 c command param vals = scanN (lRepeatsM_B1 c command param vals) k1_ (((((commandM c command).1).effects).length) - k1_)) (fun k1_ => ((((commandM c command).1).effects).length) - k1_) 0 leZ ⟨Nat.zero_le _, rfl⟩ ?_
   intro k1_ ⟨hk1_, hs1_⟩
   refine AWp.hz [.run 1] 77 [(1, vs command), (3, .rv (.sl 3 (vals.map Val.cells))), (4, .ptr 0 0), (6, .ptr 1 0), (32, .rv (.sl 3 ((((commandM c command).1).effects).map Effect.cells))), (33, vi (((((commandM c command).1).effects).length : Nat) : Int)), (34, vi ((k1_ : Nat) : Int)), (35, vb (decide (((k1_ : Nat) : Int) < (((((commandM c command).1).effects).length : Nat) : Int))))] [(1, .box 44 (avs (Val.cells param))), (0, .box 26 (avs (Cluster.cells c)))] 3 ?_
   refine AWp.seq ?_
   refine AWp.cnd (decide (((k1_ : Nat) : Int) < (((((commandM c command).1).effects).length : Nat) : Int))) (fun h5 => ?_) (fun h5 => ?_)
   ·
    have h5' := of_decide_eq_true h5
    refine AWp.skip ?_
    refine AWp.seq ?_
    refine AWp.block ?_
    obtain ⟨e1_, he1_⟩ : ∃ e_, (((commandM c command).1).effects)[k1_]? = some e_ := ⟨_, List.getElem?_eq_getElem (by omega)⟩
    refine AWp.hz [.idx Effect.cells (((commandM c command).1).effects) 3 k1_ e1_ he1_, .run 3] 77 [(1, vs command), (3, .rv (.sl 3 (vals.map Val.cells))), (4, .ptr 0 0), (6, .ptr 1 0), (12, .ptr 3 0), (32, .rv (.sl 3 ((((commandM c command).1).effects).map Effect.cells))), (33, vi (((((commandM c command).1).effects).length : Nat) : Int)), (34, vi ((k1_ : Nat) : Int))] [(3, .box 52 (avs (Effect.cells e1_))), (1, .box 44 (avs (Val.cells param))), (0, .box 26 (avs (Cluster.cells c)))] 4 ?_
    refine AWp.join (Z 77 [(1, vs command), (3, .rv (.sl 3 (vals.map Val.cells))), (4, .ptr 0 0), (6, .ptr 1 0), (32, .rv (.sl 3 ((((commandM c command).1).effects).map Effect.cells))), (33, vi (((((commandM c command).1).effects).length : Nat) : Int)), (34, vi ((k1_ : Nat) : Int)), (45, vb ((e1_.kind != 1) && (e1_.kind != 2)))] [(1, .box 44 (avs (Val.cells param))), (0, .box 26 (avs (Cluster.cells c)))] 4) ?_ ?_
    ·
     refine AWp.region ?_
     refine AOps.hg [.run 4] ((e1_.kind != 1)) 77 (fun b_ => [(1, vs command), (3, .rv (.sl 3 (vals.map Val.cells))), (4, .ptr 0 0), (6, .ptr 1 0), (12, .ptr 3 0), (32, .rv (.sl 3 ((((commandM c command).1).effects).map Effect.cells))), (33, vi (((((commandM c command).1).effects).length : Nat) : Int)), (34, vi ((k1_ : Nat) : Int)), (41, vb b_)]) [(3, .box 52 (avs (Effect.cells e1_))), (1, .box 44 (avs (Val.cells param))), (0, .box 26 (avs (Cluster.cells c)))] 4 (fun hg6 => ?_) (fun hg6 => ?_)
     ·
      refine AOps.he [.run 4] 77 [(1, vs command), (3, .rv (.sl 3 (vals.map Val.cells))), (4, .ptr 0 0), (6, .ptr 1 0), (32, .rv (.sl 3 ((((commandM c command).1).effects).map Effect.cells))), (33, vi (((((commandM c command).1).effects).length : Nat) : Int)), (34, vi ((k1_ : Nat) : Int)), (45, vb (e1_.kind != 2))] [(1, .box 44 (avs (Val.cells param))), (0, .box 26 (avs (Cluster.cells c)))] 4 ?_
      exact leZ (by rw [hg6]; first | done | kernel_rfl)
     ·
      refine AOps.he [.run 4] 77 [(1, vs command), (3, .rv (.sl 3 (vals.map Val.cells))), (4, .ptr 0 0), (6, .ptr 1 0), (32, .rv (.sl 3 ((((commandM c command).1).effects).map Effect.cells))), (33, vi (((((commandM c command).1).effects).length : Nat) : Int)), (34, vi ((k1_ : Nat) : Int)), (45, vb false)] [(1, .box 44 (avs (Val.cells param))), (0, .box 26 (avs (Cluster.cells c)))] 4 ?_
      exact leZ (by rw [hg6]; first | done | kernel_rfl)
    ·
     refine AWp.cnd (((e1_.kind != 1) && (e1_.kind != 2))) (fun h7 => ?_) (fun h7 => ?_)
     ·
      have h7l := and_tl h7
      have h7r := and_tr h7
      refine AWp.hz [.call 12 [] (vb true) [] 0 (awake_ok), .run 1] 77 [(8, vb true)] [] 4 ?_
      refine AWp.ret ?_
      have hL1_ : lRepeatsM_L1 c command param vals = some true := scanN_some hs1_ (by omega) (by unfold lRepeatsM_B1; (try simp only [he1_]); (try rw [h5]); (try rw [h7]); first | done | kernel_rfl)
      exact leafR (r := vb true) (by unfold lRepeatsM; (try rw [h3]); (try rw [hL1_]); first | done | kernel_rfl)
     ·
      refine AWp.skip ?_
      refine AWp.he [.cast (vi (IntKind.i64.wrap (((k1_ : Nat) : Int) + 1))) (vi ((k1_ + 1 : Nat) : Int)) (congrArg vi (wrap_nat (by omega))), .run 1] 77 [(1, vs command), (3, .rv (.sl 3 (vals.map Val.cells))), (4, .ptr 0 0), (6, .ptr 1 0), (32, .rv (.sl 3 ((((commandM c command).1).effects).map Effect.cells))), (33, vi (((((commandM c command).1).effects).length : Nat) : Int)), (34, vi ((k1_ + 1 : Nat) : Int))] [(1, .box 44 (avs (Val.cells param))), (0, .box 26 (avs (Cluster.cells c)))] 4 ?_
      exact ⟨k1_ + 1, ⟨by omega, scanN_none hs1_ (by omega) (by unfold lRepeatsM_B1; (try simp only [he1_]); (try rw [h5]); (try rw [h7]); first | done | kernel_rfl)⟩, by omega, leG⟩
   ·
    have h5' := of_decide_eq_false h5
    refine AWp.exit ?_
    have hL1_ : lRepeatsM_L1 c command param vals = none := scanN_end hs1_ (by omega)
    refine AWp.hz [.run 4, .call 21 [.agg (avs (Cluster.cells c)), vs command, .agg (avs (Val.cells param)), .rv (.sl 3 (vals.map Val.cells))] (.tuple [.rv (.sl 3 (((applyM c command param vals).1).map Val.cells)), vi ((applyM c command param vals).2)]) [] 0 (applyM_ok c command param vals (by first | assumption | exact std_fit _ (List.mem_of_getElem? (by assumption)) | exact fit_s1 (by assumption) | exact std_fit | exact fun c hc => std_fit c (List.mem_of_mem_take (List.mem_of_mem_drop hc)) | exact Nat.le_trans (apply_len _ _ _ _) (by omega) | exact parts_fit (by assumption) | exact parts_fit (by assumption) _ (List.mem_of_getElem? (by assumption)) | (simp; done) | exact ⟨by simp, by simp⟩ | exact hw _ (List.mem_of_getElem? (by assumption)) | exact hw.1 _ (List.mem_of_getElem? (by assumption)) | exact (hw.2 _ (List.mem_of_getElem? (by assumption))).1 | exact (hw.2 _ (List.mem_of_getElem? (by assumption))).2 | omega | exact fit_take hw _) (by first | assumption | exact std_fit _ (List.mem_of_getElem? (by assumption)) | exact fit_s1 (by assumption) | exact std_fit | exact fun c hc => std_fit c (List.mem_of_mem_take (List.mem_of_mem_drop hc)) | exact Nat.le_trans (apply_len _ _ _ _) (by omega) | exact parts_fit (by assumption) | exact parts_fit (by assumption) _ (List.mem_of_getElem? (by assumption)) | (simp; done) | exact ⟨by simp, by simp⟩ | exact hw _ (List.mem_of_getElem? (by assumption)) | exact hw.1 _ (List.mem_of_getElem? (by assumption)) | exact (hw.2 _ (List.mem_of_getElem? (by assumption))).1 | exact (hw.2 _ (List.mem_of_getElem? (by assumption))).2 | omega | exact fit_take hw _)), .run 5] 77 [(1, vs command), (4, .ptr 0 0), (6, .ptr 1 0), (13, .rv (.sl 3 (((applyM c command param vals).1).map Val.cells))), (14, vi ((applyM c command param vals).2))] [(1, .box 44 (avs (Val.cells param))), (0, .box 26 (avs (Cluster.cells c)))] 3 ?_
    refine AWp.seq ?_
    refine AWp.hz [.run 2] 77 [(1, vs command), (4, .ptr 0 0), (6, .ptr 1 0), (13, .rv (.sl 3 (((applyM c command param vals).1).map Val.cells))), (57, vb (((applyM c command param vals).2) != 0))] [(1, .box 44 (avs (Val.cells param))), (0, .box 26 (avs (Cluster.cells c)))] 3 ?_
    refine AWp.cnd ((((applyM c command param vals).2) != 0)) (fun h8 => ?_) (fun h8 => ?_)
    ·
     refine AWp.hz [.call 12 [] (vb true) [] 0 (awake_ok), .run 1] 77 [(8, vb true)] [] 3 ?_
     refine AWp.ret ?_
     exact leafR (r := vb true) (by unfold lRepeatsM; (try rw [h3]); (try rw [hL1_]); (try rw [h8]); first | done | kernel_rfl)
    ·
     refine AWp.skip ?_
     refine AWp.hz [.run 4, .call 21 [.agg (avs (Cluster.cells c)), vs command, .agg (avs (Val.cells param)), .rv (.sl 3 (((applyM c command param vals).1).map Val.cells))] (.tuple [.rv (.sl 3 (((applyM c command param ((applyM c command param vals).1)).1).map Val.cells)), vi ((applyM c command param ((applyM c command param vals).1)).2)]) [] 0 (applyM_ok c command param ((applyM c command param vals).1) (by first | assumption | exact std_fit _ (List.mem_of_getElem? (by assumption)) | exact fit_s1 (by assumption) | exact std_fit | exact fun c hc => std_fit c (List.mem_of_mem_take (List.mem_of_mem_drop hc)) | exact Nat.le_trans (apply_len _ _ _ _) (by omega) | exact parts_fit (by assumption) | exact parts_fit (by assumption) _ (List.mem_of_getElem? (by assumption)) | (simp; done) | exact ⟨by simp, by simp⟩ | exact hw _ (List.mem_of_getElem? (by assumption)) | exact hw.1 _ (List.mem_of_getElem? (by assumption)) | exact (hw.2 _ (List.mem_of_getElem? (by assumption))).1 | exact (hw.2 _ (List.mem_of_getElem? (by assumption))).2 | omega | exact fit_take hw _) (by first | assumption | exact std_fit _ (List.mem_of_getElem? (by assumption)) | exact fit_s1 (by assumption) | exact std_fit | exact fun c hc => std_fit c (List.mem_of_mem_take (List.mem_of_mem_drop hc)) | exact Nat.le_trans (apply_len _ _ _ _) (by omega) | exact parts_fit (by assumption) | exact parts_fit (by assumption) _ (List.mem_of_getElem? (by assumption)) | (simp; done) | exact ⟨by simp, by simp⟩ | exact hw _ (List.mem_of_getElem? (by assumption)) | exact hw.1 _ (List.mem_of_getElem? (by assumption)) | exact (hw.2 _ (List.mem_of_getElem? (by assumption))).1 | exact (hw.2 _ (List.mem_of_getElem? (by assumption))).2 | omega | exact fit_take hw _)), .run 5] 77 [(13, .rv (.sl 3 (((applyM c command param vals).1).map Val.cells))), (14, vi ((applyM c command param ((applyM c command param vals).1)).2)), (15, .rv (.sl 3 (((applyM c command param ((applyM c command param vals).1)).1).map Val.cells)))] [] 3 ?_
     refine AWp.join (Z 77 [(8, vb ((((applyM c command param ((applyM c command param vals).1)).2) == 0) && sameValuesM ((applyM c command param vals).1) ((applyM c command param ((applyM c command param vals).1)).1)))] [] 3) ?_ ?_
     ·
      refine AWp.region ?_
      refine AOps.hg [.run 3] ((((applyM c command param ((applyM c command param vals).1)).2) == 0)) 77 (fun b_ => [(13, .rv (.sl 3 (((applyM c command param vals).1).map Val.cells))), (15, .rv (.sl 3 (((applyM c command param ((applyM c command param vals).1)).1).map Val.cells))), (69, vb b_)]) [] 3 (fun hg9 => ?_) (fun hg9 => ?_)
      ·
       refine AOps.hg [.run 2, .call 23 [.rv (.sl 3 (((applyM c command param vals).1).map Val.cells)), .rv (.sl 3 (((applyM c command param ((applyM c command param vals).1)).1).map Val.cells))] (vb (sameValuesM ((applyM c command param vals).1) ((applyM c command param ((applyM c command param vals).1)).1))) [] 0 (sameValuesM_ok ((applyM c command param vals).1) ((applyM c command param ((applyM c command param vals).1)).1)), .run 2] (sameValuesM ((applyM c command param vals).1) ((applyM c command param ((applyM c command param vals).1)).1)) 77 (fun b_ => [(74, vb b_)]) [] 3 (fun hg10 => ?_) (fun hg10 => ?_)
       ·
        refine AOps.he [.call 12 [] (vb true) [] 0 (awake_ok), .run 2] 77 [(8, vb true)] [] 3 ?_
        exact leZ (by rw [hg9, hg10]; first | done | kernel_rfl)
       ·
        refine AOps.he [.run 3] 77 [(8, vb false)] [] 3 ?_
        exact leZ (by rw [hg9, hg10]; first | done | kernel_rfl)
      ·
       refine AOps.he [.run 8] 77 [(8, vb false)] [] 3 ?_
       exact leZ (by rw [hg9]; first | done | kernel_rfl)
     ·
      refine AWp.ret ?_
      exact leafR (r := vb ((((applyM c command param ((applyM c command param vals).1)).2) == 0) && sameValuesM ((applyM c command param vals).1) ((applyM c command param ((applyM c command param vals).1)).1))) (by unfold lRepeatsM; (try rw [h3]); (try rw [hL1_]); (try rw [h8]); first | done | kernel_rfl)
def lStandardM_B1 (i : Int) (k1_ : Nat) : Option Bool :=
  (match (stdM )[k1_]? with | some e1_ => (match (rstdM )[k1_]? with | some e2_ => (bif !(sameClusterM e1_ e2_) then some false else none) | none => none) | none => none)
def lStandardM_L1 (i : Int) : Option Bool := scanN (lStandardM_B1 i) 0 ((stdM ).length)
def lStandardM (i : Int) : Bool :=
  (bif (((((stdM ).length : Nat) : Int) != (((rstdM ).length : Nat) : Int)) || (allM (stdM ) != 0)) then false else (lStandardM_L1 i).getD (!((decide (i ≥ 0) && decide (i < (((stdM ).length : Nat) : Int))) && (allM (((stdM ).take ((i + 1).toNat)).drop i.toNat) != 0))))
theorem lStandardM_ok (i : Int) :
 ACalls Tryd.prog G_ 9 [vi i] [] 0 (fun r τ => r = vb (lStandardM i) ∧ τ = []) := by
 refine ACalls.body Tryd.func9 rfl 52 [(0, vi i)] ?_
 refine AWp.hz [.run 1] 52 [(0, vi i)] [] 0 ?_
 refine AWp.hz [.call 27 [] (.rv (.sl 4 ((stdM ).map Cluster.cells))) [] 0 (stdM_ok ), .call 28 [] (.rv (.sl 4 ((rstdM ).map Cluster.cells))) [] 0 (rstdM_ok ), .run 2] 52 [(0, vi i), (3, .rv (.sl 4 ((stdM ).map Cluster.cells))), (4, .rv (.sl 4 ((rstdM ).map Cluster.cells)))] [] 0 ?_
 refine AWp.seq ?_
 refine AWp.join (Z 52 [(0, vi i), (3, .rv (.sl 4 ((stdM ).map Cluster.cells))), (4, .rv (.sl 4 ((rstdM ).map Cluster.cells))), (17, vb (((((stdM ).length : Nat) : Int) != (((rstdM ).length : Nat) : Int)) || (allM (stdM ) != 0)))] [] 0) ?_ ?_
 ·
  refine AWp.region ?_
  refine AOps.hzl [.run 1, .len Cluster.cells (stdM ) 4, .run 1, .len Cluster.cells (rstdM ) 4, .run 2] 52 [(0, vi i), (3, .rv (.sl 4 ((stdM ).map Cluster.cells))), (4, .rv (.sl 4 ((rstdM ).map Cluster.cells))), (13, vb ((((stdM ).length : Nat) : Int) != (((rstdM ).length : Nat) : Int)))] [] 0 (fun hl => ?_)
  obtain ⟨hn1, hn2, -⟩ := hl
  refine AOps.hg [] (((((stdM ).length : Nat) : Int) != (((rstdM ).length : Nat) : Int))) 52 (fun b_ => [(0, vi i), (3, .rv (.sl 4 ((stdM ).map Cluster.cells))), (4, .rv (.sl 4 ((rstdM ).map Cluster.cells))), (13, vb b_)]) [] 0 (fun hg3 => ?_) (fun hg3 => ?_)
  ·
   have hg3' := bne_t hg3
   refine AOps.he [.run 4] 52 [(0, vi i), (3, .rv (.sl 4 ((stdM ).map Cluster.cells))), (4, .rv (.sl 4 ((rstdM ).map Cluster.cells))), (17, vb true)] [] 0 ?_
   exact leZ (by rw [hg3]; first | done | kernel_rfl)
  ·
   have hg3' := bne_f hg3
   refine AOps.he [.run 1, .call 25 [.rv (.sl 4 ((stdM ).map Cluster.cells))] (vi (allM (stdM ))) [] 0 (allM_ok (stdM ) (by first | assumption | exact std_fit _ (List.mem_of_getElem? (by assumption)) | exact fit_s1 (by assumption) | exact std_fit | exact fun c hc => std_fit c (List.mem_of_mem_take (List.mem_of_mem_drop hc)) | exact Nat.le_trans (apply_len _ _ _ _) (by omega) | exact parts_fit (by assumption) | exact parts_fit (by assumption) _ (List.mem_of_getElem? (by assumption)) | (simp; done) | exact ⟨by simp, by simp⟩ | exact hw _ (List.mem_of_getElem? (by assumption)) | exact hw.1 _ (List.mem_of_getElem? (by assumption)) | exact (hw.2 _ (List.mem_of_getElem? (by assumption))).1 | exact (hw.2 _ (List.mem_of_getElem? (by assumption))).2 | omega | exact fit_take hw _)), .run 2] 52 [(0, vi i), (3, .rv (.sl 4 ((stdM ).map Cluster.cells))), (4, .rv (.sl 4 ((rstdM ).map Cluster.cells))), (17, vb (allM (stdM ) != 0))] [] 0 ?_
   exact leZ (by rw [hg3]; first | done | kernel_rfl)
 ·
  refine AWp.cnd ((((((stdM ).length : Nat) : Int) != (((rstdM ).length : Nat) : Int)) || (allM (stdM ) != 0))) (fun h4 => ?_) (fun h4 => ?_)
  ·
   refine AWp.hz [.run 1] 52 [(2, vb false)] [] 0 ?_
   refine AWp.ret ?_
   exact leafR (r := vb false) (by unfold lStandardM; (try rw [h4]); first | done | kernel_rfl)
  ·
   have h4l := or_fl h4
   have h4l' := bne_f h4l
   have h4r := or_fr h4
   refine AWp.skip ?_
   refine AWp.seq ?_
   refine AWp.hzl [.run 1, .len Cluster.cells (stdM ) 4, .run 1] 52 [(0, vi i), (3, .rv (.sl 4 ((stdM ).map Cluster.cells))), (4, .rv (.sl 4 ((rstdM ).map Cluster.cells))), (19, vi (((stdM ).length : Nat) : Int)), (20, vi 0)] [] 0 (fun hl => ?_)
   obtain ⟨hn5, -⟩ := hl
   refine AWp.block ?_
   refine AWp.loop (ι := Nat) (fun k1_ => Z 52 [(0, vi i), (3, .rv (.sl 4 ((stdM ).map Cluster.cells))), (4, .rv (.sl 4 ((rstdM ).map Cluster.cells))), (19, vi (((stdM ).length : Nat) : Int)), (20, vi ((k1_ : Nat) : Int))] [] 0) (fun k1_ => k1_ ≤ ((stdM ).length) ∧ lStandardM_L1 i = scanN (lStandardM_B1 i) k1_ (((stdM ).length) - k1_)) (fun k1_ => ((stdM ).length) - k1_) 0 leZ ⟨Nat.zero_le _, rfl⟩ ?_
   intro k1_ ⟨hk1_, hs1_⟩
   refine AWp.hz [.run 1] 52 [(0, vi i), (3, .rv (.sl 4 ((stdM ).map Cluster.cells))), (4, .rv (.sl 4 ((rstdM ).map Cluster.cells))), (19, vi (((stdM ).length : Nat) : Int)), (20, vi ((k1_ : Nat) : Int)), (21, vb (decide (((k1_ : Nat) : Int) < (((stdM ).length : Nat) : Int))))] [] 0 ?_
   refine AWp.seq ?_
   refine AWp.cnd (decide (((k1_ : Nat) : Int) < (((stdM ).length : Nat) : Int))) (fun h6 => ?_) (fun h6 => ?_)
   ·
    have h6' := of_decide_eq_true h6
    refine AWp.skip ?_
    refine AWp.seq ?_
    refine AWp.block ?_
    refine AWp.hz [.run 2] 52 [(0, vi i), (3, .rv (.sl 4 ((stdM ).map Cluster.cells))), (4, .rv (.sl 4 ((rstdM ).map Cluster.cells))), (5, vi ((k1_ : Nat) : Int)), (19, vi (((stdM ).length : Nat) : Int)), (20, vi ((k1_ : Nat) : Int))] [] 0 ?_
    obtain ⟨e1_, he1_⟩ : ∃ e_, (stdM )[k1_]? = some e_ := ⟨_, List.getElem?_eq_getElem (by omega)⟩
    obtain ⟨e2_, he2_⟩ : ∃ e_, (rstdM )[k1_]? = some e_ := ⟨_, List.getElem?_eq_getElem (by omega)⟩
    refine AWp.dz [.rv (.sl 4 ((stdM ).map Cluster.cells)), vi ((k1_ : Nat) : Int), .rv (.ptr (Cluster.cells e1_)), .agg (avs (Cluster.cells e1_)), .rv (.sl 4 ((rstdM ).map Cluster.cells)), vi ((k1_ : Nat) : Int), .rv (.ptr (Cluster.cells e2_)), .agg (avs (Cluster.cells e2_)), vb (sameClusterM e1_ e2_), vb (!(sameClusterM e1_ e2_))] 52 [(0, vi i), (3, .rv (.sl 4 ((stdM ).map Cluster.cells))), (4, .rv (.sl 4 ((rstdM ).map Cluster.cells))), (19, vi (((stdM ).length : Nat) : Int)), (20, vi ((k1_ : Nat) : Int)), (32, vb (!(sameClusterM e1_ e2_)))] [] 0 ?_ ?_
    ·
     refine DSteps.cons (DStep.va) ?_
     refine DSteps.cons (DStep.va) ?_
     refine DSteps.cons (DStep.vs (by kernel_rfl) (R_indexAddrM Cluster.cells (stdM ) 4 k1_ rfl (by kernel_rfl) (by kernel_rfl) (by kernel_rfl) he1_)) ?_
     refine DSteps.cons (DStep.va) ?_
     refine DSteps.cons (DStep.va) ?_
     refine DSteps.cons (DStep.va) ?_
     refine DSteps.cons (DStep.vs (by kernel_rfl) (R_indexAddrM Cluster.cells (rstdM ) 4 k1_ rfl (by kernel_rfl) (by kernel_rfl) (by kernel_rfl) he2_)) ?_
     refine DSteps.cons (DStep.va) ?_
     refine DSteps.cons (DStep.call rfl (by kernel_rfl) (by kernel_rfl) (by kernel_rfl) (args := [.agg (avs (Cluster.cells e1_)), .agg (avs (Cluster.cells e2_))]) (by kernel_rfl) (by kernel_rfl) (sameClusterM_ok e1_ e2_) (by kernel_rfl) (Nat.le_of_ble_eq_true (by kernel_rfl))) ?_
     refine DSteps.cons (DStep.va) ?_
     exact DSteps.nl
    refine AWp.cnd (!(sameClusterM e1_ e2_)) (fun h7 => ?_) (fun h7 => ?_)
    ·
     refine AWp.hz [.run 1] 52 [(2, vb false)] [] 0 ?_
     refine AWp.ret ?_
     have hL1_ : lStandardM_L1 i = some false := scanN_some hs1_ (by omega) (by unfold lStandardM_B1; (try simp only [he1_]); (try simp only [he2_]); (try rw [h6]); (try rw [h7]); first | done | kernel_rfl)
     exact leafR (r := vb false) (by unfold lStandardM; (try rw [h4]); (try rw [hL1_]); first | done | kernel_rfl)
    ·
     refine AWp.skip ?_
     refine AWp.he [.cast (vi (IntKind.i64.wrap (((k1_ : Nat) : Int) + 1))) (vi ((k1_ + 1 : Nat) : Int)) (congrArg vi (wrap_nat (by omega))), .run 1] 52 [(0, vi i), (3, .rv (.sl 4 ((stdM ).map Cluster.cells))), (4, .rv (.sl 4 ((rstdM ).map Cluster.cells))), (19, vi (((stdM ).length : Nat) : Int)), (20, vi ((k1_ + 1 : Nat) : Int))] [] 0 ?_
     exact ⟨k1_ + 1, ⟨by omega, scanN_none hs1_ (by omega) (by unfold lStandardM_B1; (try simp only [he1_]); (try simp only [he2_]); (try rw [h6]); (try rw [h7]); first | done | kernel_rfl)⟩, by omega, leG⟩
   ·
    have h6' := of_decide_eq_false h6
    refine AWp.exit ?_
    have hL1_ : lStandardM_L1 i = none := scanN_end hs1_ (by omega)
    refine AWp.seq ?_
    refine AWp.join (Z 52 [(50, vb ((decide (i ≥ 0) && decide (i < (((stdM ).length : Nat) : Int))) && (allM (((stdM ).take ((i + 1).toNat)).drop i.toNat) != 0)))] [] 0) ?_ ?_
    ·
     refine AWp.region ?_
     refine AOps.hg [.run 3] (decide (i ≥ 0)) 52 (fun b_ => [(0, vi i), (3, .rv (.sl 4 ((stdM ).map Cluster.cells))), (36, vb b_)]) [] 0 (fun hg8 => ?_) (fun hg8 => ?_)
     ·
      have hg8' := of_decide_eq_true hg8
      refine AOps.hzl [.run 2, .len Cluster.cells (stdM ) 4, .run 3] 52 [(0, vi i), (3, .rv (.sl 4 ((stdM ).map Cluster.cells))), (42, vb (decide (i < (((stdM ).length : Nat) : Int))))] [] 0 (fun hl => ?_)
      obtain ⟨hn9, -⟩ := hl
      refine AOps.hg [] (decide (i < (((stdM ).length : Nat) : Int))) 52 (fun b_ => [(0, vi i), (3, .rv (.sl 4 ((stdM ).map Cluster.cells))), (42, vb b_)]) [] 0 (fun hg10 => ?_) (fun hg10 => ?_)
      ·
       have hg10' := of_decide_eq_true hg10
       have ht11 : i = ((i.toNat : Nat) : Int) := (Int.toNat_of_nonneg (by omega)).symm
       have ht12 : IntKind.i64.wrap (i + 1) = (((i + 1).toNat : Nat) : Int) := by rw [wrap64_of _ (by omega) (by omega)]; exact (Int.toNat_of_nonneg (by omega)).symm
       refine AOps.he [.run 4, .slot 44 (vi i) (vi ((i.toNat : Nat) : Int)) (congrArg vi ht11), .slot 46 (vi (IntKind.i64.wrap (i + 1))) (vi (((i + 1).toNat : Nat) : Int)) (congrArg vi ht12), .slc Cluster.cells (stdM ) 4 (some i.toNat) (some ((i + 1).toNat)) (by first | omega | (simp only [Option.getD_some, Option.getD_none]; omega)) (by first | omega | (simp only [Option.getD_some, Option.getD_none]; omega)), .call 25 [.rv (.sl 4 ((((stdM ).take ((i + 1).toNat)).drop i.toNat).map Cluster.cells))] (vi (allM (((stdM ).take ((i + 1).toNat)).drop i.toNat))) [] 0 (allM_ok (((stdM ).take ((i + 1).toNat)).drop i.toNat) (by first | assumption | exact std_fit _ (List.mem_of_getElem? (by assumption)) | exact fit_s1 (by assumption) | exact std_fit | exact fun c hc => std_fit c (List.mem_of_mem_take (List.mem_of_mem_drop hc)) | exact Nat.le_trans (apply_len _ _ _ _) (by omega) | exact parts_fit (by assumption) | exact parts_fit (by assumption) _ (List.mem_of_getElem? (by assumption)) | (simp; done) | exact ⟨by simp, by simp⟩ | exact hw _ (List.mem_of_getElem? (by assumption)) | exact hw.1 _ (List.mem_of_getElem? (by assumption)) | exact (hw.2 _ (List.mem_of_getElem? (by assumption))).1 | exact (hw.2 _ (List.mem_of_getElem? (by assumption))).2 | omega | exact fit_take hw _)), .run 2] 52 [(50, vb (allM (((stdM ).take ((i + 1).toNat)).drop i.toNat) != 0))] [] 0 ?_
       exact leZ (by rw [hg8, hg10]; first | done | kernel_rfl)
      ·
       have hg10' := of_decide_eq_false hg10
       refine AOps.he [.run 8] 52 [(50, vb false)] [] 0 ?_
       exact leZ (by rw [hg8, hg10]; first | done | kernel_rfl)
     ·
      have hg8' := of_decide_eq_false hg8
      refine AOps.he [.run 14] 52 [(50, vb false)] [] 0 ?_
      exact leZ (by rw [hg8]; first | done | kernel_rfl)
    ·
     refine AWp.cnd (((decide (i ≥ 0) && decide (i < (((stdM ).length : Nat) : Int))) && (allM (((stdM ).take ((i + 1).toNat)).drop i.toNat) != 0))) (fun h13 => ?_) (fun h13 => ?_)
     ·
      have h13l := and_tl h13
      have h13ll := and_tl h13l
      have h13ll' := of_decide_eq_true h13ll
      have h13lr := and_tr h13l
      have h13lr' := of_decide_eq_true h13lr
      have h13r := and_tr h13
      refine AWp.hz [.run 1] 52 [(2, vb false)] [] 0 ?_
      refine AWp.ret ?_
      exact leafR (r := vb false) (by unfold lStandardM; (try rw [h4]); (try rw [hL1_]); (try rw [h13]); first | done | kernel_rfl)
     ·
      refine AWp.skip ?_
      refine AWp.hz [.call 12 [] (vb true) [] 0 (awake_ok), .run 1] 52 [(2, vb true)] [] 0 ?_
      refine AWp.ret ?_
      exact leafR (r := vb true) (by unfold lStandardM; (try rw [h4]); (try rw [hL1_]); (try rw [h13]); first | done | kernel_rfl)
def lPartsM_B1 (l : List Cluster) (k1_ : Nat) : Option Bool :=
  (match (l)[k1_]? with | some e1_ => (bif !(smallM e1_) then some true else none) | none => none)
def lPartsM_L1 (l : List Cluster) : Option Bool := scanN (lPartsM_B1 l) 0 l.length
def lPartsM_B3 (l : List Cluster) (k2_ : Nat) (e2_ : Cluster) (k3_ : Nat) : Option Bool :=
  (match ((l.take k2_))[k3_]? with | some e3_ => (bif beqS e2_.name e3_.name then some false else none) | none => none)
def lPartsM_L3 (l : List Cluster) (k2_ : Nat) (e2_ : Cluster) : Option Bool := scanN (lPartsM_B3 l k2_ e2_) 0 ((l.take k2_).length)
def lPartsM_B2 (l : List Cluster) (k2_ : Nat) : Option Bool :=
  (match (l)[k2_]? with | some e2_ => (bif (checkM e2_ != 0) then some false else lPartsM_L3 l k2_ e2_) | none => none)
def lPartsM_L2 (l : List Cluster) : Option Bool := scanN (lPartsM_B2 l) 0 l.length
def lPartsM (l : List Cluster) : Bool :=
  (decide (((l.length : Nat) : Int) > 12) || (lPartsM_L1 l).getD ((allM l != 0) || (lPartsM_L2 l).getD true))
theorem parts_fit {l : List Cluster} (h : lPartsM_L1 l = none) : ∀ c ∈ l, Fit c := by
  intro c hc
  obtain ⟨k, hk, rfl⟩ := List.mem_iff_getElem.1 hc
  have := scanN_all.1 h k (Nat.zero_le _) (by omega)
  unfold lPartsM_B1 at this
  rw [List.getElem?_eq_getElem hk] at this
  simp only [cond_eq_ite] at this
  split at this
  · cases this
  · rename_i h2
    exact fit_small (by simpa using h2)
theorem lPartsM_ok (l : List Cluster) :
 ACalls Tryd.prog G_ 10 [.rv (.sl 4 (l.map Cluster.cells))] [] 0 (fun r τ => r = vb (lPartsM l) ∧ τ = []) := by
 refine ACalls.body Tryd.func10 rfl 54 [(0, .rv (.sl 4 (l.map Cluster.cells)))] ?_
 refine AWp.hz [.run 1] 54 [(0, .rv (.sl 4 (l.map Cluster.cells)))] [] 0 ?_
 refine AWp.seq ?_
 refine AWp.hzl [.run 1, .len Cluster.cells l 4, .run 1] 54 [(0, .rv (.sl 4 (l.map Cluster.cells))), (11, vb (decide (((l.length : Nat) : Int) > 12)))] [] 0 (fun hl => ?_)
 obtain ⟨hn1, -⟩ := hl
 refine AWp.cnd (decide (((l.length : Nat) : Int) > 12)) (fun h2 => ?_) (fun h2 => ?_)
 ·
  have h2' := of_decide_eq_true h2
  refine AWp.hz [.call 12 [] (vb true) [] 0 (awake_ok), .run 1] 54 [(2, vb true)] [] 0 ?_
  refine AWp.ret ?_
  exact leafR (r := vb true) (by unfold lPartsM; (try rw [h2]); first | done | kernel_rfl)
 ·
  have h2' := of_decide_eq_false h2
  refine AWp.skip ?_
  refine AWp.seq ?_
  refine AWp.hzl [.run 1, .len Cluster.cells l 4, .run 1] 54 [(0, .rv (.sl 4 (l.map Cluster.cells))), (13, .rv (.sl 4 (l.map Cluster.cells))), (14, vi ((l.length : Nat) : Int)), (15, vi 0)] [] 0 (fun hl => ?_)
  obtain ⟨hn3, -⟩ := hl
  refine AWp.block ?_
  refine AWp.loop (ι := Nat) (fun k1_ => Z 54 [(0, .rv (.sl 4 (l.map Cluster.cells))), (13, .rv (.sl 4 (l.map Cluster.cells))), (14, vi ((l.length : Nat) : Int)), (15, vi ((k1_ : Nat) : Int))] [] 0) (fun k1_ => k1_ ≤ l.length ∧ lPartsM_L1 l = scanN (lPartsM_B1 l) k1_ (l.length - k1_)) (fun k1_ => l.length - k1_) 0 leZ ⟨Nat.zero_le _, rfl⟩ ?_
  intro k1_ ⟨hk1_, hs1_⟩
  refine AWp.hz [.run 1] 54 [(0, .rv (.sl 4 (l.map Cluster.cells))), (13, .rv (.sl 4 (l.map Cluster.cells))), (14, vi ((l.length : Nat) : Int)), (15, vi ((k1_ : Nat) : Int)), (16, vb (decide (((k1_ : Nat) : Int) < ((l.length : Nat) : Int))))] [] 0 ?_
  refine AWp.seq ?_
  refine AWp.cnd (decide (((k1_ : Nat) : Int) < ((l.length : Nat) : Int))) (fun h4 => ?_) (fun h4 => ?_)
  ·
   have h4' := of_decide_eq_true h4
   refine AWp.skip ?_
   refine AWp.seq ?_
   refine AWp.block ?_
   obtain ⟨e1_, he1_⟩ : ∃ e_, (l)[k1_]? = some e_ := ⟨_, List.getElem?_eq_getElem (by omega)⟩
   refine AWp.hz [.idx Cluster.cells l 4 k1_ e1_ he1_, .run 3] 54 [(0, .rv (.sl 4 (l.map Cluster.cells))), (4, .ptr 0 0), (13, .rv (.sl 4 (l.map Cluster.cells))), (14, vi ((l.length : Nat) : Int)), (15, vi ((k1_ : Nat) : Int))] [(0, .box 26 (avs (Cluster.cells e1_)))] 1 ?_
   refine AWp.hz [.run 1, .call 11 [.agg (avs (Cluster.cells e1_))] (vb (smallM e1_)) [] 0 (smallM_ok e1_), .run 1] 54 [(0, .rv (.sl 4 (l.map Cluster.cells))), (13, .rv (.sl 4 (l.map Cluster.cells))), (14, vi ((l.length : Nat) : Int)), (15, vi ((k1_ : Nat) : Int)), (21, vb (!(smallM e1_)))] [] 1 ?_
   refine AWp.cnd (!(smallM e1_)) (fun h5 => ?_) (fun h5 => ?_)
   ·
    refine AWp.hz [.call 12 [] (vb true) [] 0 (awake_ok), .run 1] 54 [(2, vb true)] [] 1 ?_
    refine AWp.ret ?_
    have hL1_ : lPartsM_L1 l = some true := scanN_some hs1_ (by omega) (by unfold lPartsM_B1; (try simp only [he1_]); (try rw [h4]); (try rw [h5]); first | done | kernel_rfl)
    exact leafR (r := vb true) (by unfold lPartsM; (try rw [h2]); (try rw [hL1_]); first | done | kernel_rfl)
   ·
    refine AWp.skip ?_
    refine AWp.he [.cast (vi (IntKind.i64.wrap (((k1_ : Nat) : Int) + 1))) (vi ((k1_ + 1 : Nat) : Int)) (congrArg vi (wrap_nat (by omega))), .run 1] 54 [(0, .rv (.sl 4 (l.map Cluster.cells))), (13, .rv (.sl 4 (l.map Cluster.cells))), (14, vi ((l.length : Nat) : Int)), (15, vi ((k1_ + 1 : Nat) : Int))] [] 1 ?_
    exact ⟨k1_ + 1, ⟨by omega, scanN_none hs1_ (by omega) (by unfold lPartsM_B1; (try simp only [he1_]); (try rw [h4]); (try rw [h5]); first | done | kernel_rfl)⟩, by omega, leG⟩
  ·
   have h4' := of_decide_eq_false h4
   refine AWp.exit ?_
   have hL1_ : lPartsM_L1 l = none := scanN_end hs1_ (by omega)
   refine AWp.seq ?_
   refine AWp.hz [.run 1, .call 25 [.rv (.sl 4 (l.map Cluster.cells))] (vi (allM l)) [] 0 (allM_ok l (by first | assumption | exact std_fit _ (List.mem_of_getElem? (by assumption)) | exact fit_s1 (by assumption) | exact std_fit | exact fun c hc => std_fit c (List.mem_of_mem_take (List.mem_of_mem_drop hc)) | exact Nat.le_trans (apply_len _ _ _ _) (by omega) | exact parts_fit (by assumption) | exact parts_fit (by assumption) _ (List.mem_of_getElem? (by assumption)) | (simp; done) | exact ⟨by simp, by simp⟩ | exact hw _ (List.mem_of_getElem? (by assumption)) | exact hw.1 _ (List.mem_of_getElem? (by assumption)) | exact (hw.2 _ (List.mem_of_getElem? (by assumption))).1 | exact (hw.2 _ (List.mem_of_getElem? (by assumption))).2 | omega | exact fit_take hw _)), .run 1] 54 [(0, .rv (.sl 4 (l.map Cluster.cells))), (26, vb (allM l != 0))] [] 0 ?_
   refine AWp.cnd ((allM l != 0)) (fun h6 => ?_) (fun h6 => ?_)
   ·
    refine AWp.hz [.call 12 [] (vb true) [] 0 (awake_ok), .run 1] 54 [(2, vb true)] [] 0 ?_
    refine AWp.ret ?_
    exact leafR (r := vb true) (by unfold lPartsM; (try rw [h2]); (try rw [hL1_]); (try rw [h6]); first | done | kernel_rfl)
   ·
    refine AWp.skip ?_
    refine AWp.seq ?_
    refine AWp.hzl [.run 1, .len Cluster.cells l 4, .run 1] 54 [(0, .rv (.sl 4 (l.map Cluster.cells))), (28, .rv (.sl 4 (l.map Cluster.cells))), (29, vi ((l.length : Nat) : Int)), (30, vi 0)] [] 0 (fun hl => ?_)
    obtain ⟨hn7, -⟩ := hl
    refine AWp.block ?_
    refine AWp.loop (ι := Nat) (fun k2_ => Z 54 [(0, .rv (.sl 4 (l.map Cluster.cells))), (28, .rv (.sl 4 (l.map Cluster.cells))), (29, vi ((l.length : Nat) : Int)), (30, vi ((k2_ : Nat) : Int))] [] 0) (fun k2_ => k2_ ≤ l.length ∧ lPartsM_L2 l = scanN (lPartsM_B2 l) k2_ (l.length - k2_)) (fun k2_ => l.length - k2_) 0 leZ ⟨Nat.zero_le _, rfl⟩ ?_
    intro k2_ ⟨hk2_, hs2_⟩
    refine AWp.hz [.run 1] 54 [(0, .rv (.sl 4 (l.map Cluster.cells))), (28, .rv (.sl 4 (l.map Cluster.cells))), (29, vi ((l.length : Nat) : Int)), (30, vi ((k2_ : Nat) : Int)), (31, vb (decide (((k2_ : Nat) : Int) < ((l.length : Nat) : Int))))] [] 0 ?_
    refine AWp.seq ?_
    refine AWp.cnd (decide (((k2_ : Nat) : Int) < ((l.length : Nat) : Int))) (fun h8 => ?_) (fun h8 => ?_)
    ·
     have h8' := of_decide_eq_true h8
     refine AWp.skip ?_
     refine AWp.seq ?_
     refine AWp.block ?_
     obtain ⟨e2_, he2_⟩ : ∃ e_, (l)[k2_]? = some e_ := ⟨_, List.getElem?_eq_getElem (by omega)⟩
     refine AWp.hz [.run 1, .idx Cluster.cells l 4 k2_ e2_ he2_, .run 4] 54 [(0, .rv (.sl 4 (l.map Cluster.cells))), (5, vi ((k2_ : Nat) : Int)), (6, .ptr 0 0), (28, .rv (.sl 4 (l.map Cluster.cells))), (29, vi ((l.length : Nat) : Int)), (30, vi ((k2_ : Nat) : Int))] [(0, .box 26 (avs (Cluster.cells e2_)))] 1 ?_
     refine AWp.seq ?_
     refine AWp.hz [.run 1, .call 13 [.agg (avs (Cluster.cells e2_))] (vi (checkM e2_)) [] 0 (checkM_ok e2_ (by first | assumption | exact std_fit _ (List.mem_of_getElem? (by assumption)) | exact fit_s1 (by assumption) | exact std_fit | exact fun c hc => std_fit c (List.mem_of_mem_take (List.mem_of_mem_drop hc)) | exact Nat.le_trans (apply_len _ _ _ _) (by omega) | exact parts_fit (by assumption) | exact parts_fit (by assumption) _ (List.mem_of_getElem? (by assumption)) | (simp; done) | exact ⟨by simp, by simp⟩ | exact hw _ (List.mem_of_getElem? (by assumption)) | exact hw.1 _ (List.mem_of_getElem? (by assumption)) | exact (hw.2 _ (List.mem_of_getElem? (by assumption))).1 | exact (hw.2 _ (List.mem_of_getElem? (by assumption))).2 | omega | exact fit_take hw _)), .run 1] 54 [(0, .rv (.sl 4 (l.map Cluster.cells))), (5, vi ((k2_ : Nat) : Int)), (6, .ptr 0 0), (28, .rv (.sl 4 (l.map Cluster.cells))), (29, vi ((l.length : Nat) : Int)), (30, vi ((k2_ : Nat) : Int)), (37, vb (checkM e2_ != 0))] [(0, .box 26 (avs (Cluster.cells e2_)))] 1 ?_
     refine AWp.cnd ((checkM e2_ != 0)) (fun h9 => ?_) (fun h9 => ?_)
     ·
      refine AWp.hz [.run 1] 54 [(2, vb false)] [] 1 ?_
      refine AWp.ret ?_
      have hL2_ : lPartsM_L2 l = some false := scanN_some hs2_ (by omega) (by unfold lPartsM_B2; (try simp only [he2_]); (try rw [h8]); (try rw [h9]); first | done | kernel_rfl)
      exact leafR (r := vb false) (by unfold lPartsM; (try rw [h2]); (try rw [hL1_]); (try rw [h6]); (try rw [hL2_]); first | done | kernel_rfl)
     ·
      refine AWp.skip ?_
      refine AWp.hzl [.run 2, .take Cluster.cells l 4 k2_ (by omega), .len Cluster.cells (l.take k2_) 4, .run 1] 54 [(0, .rv (.sl 4 (l.map Cluster.cells))), (6, .ptr 0 0), (28, .rv (.sl 4 (l.map Cluster.cells))), (29, vi ((l.length : Nat) : Int)), (30, vi ((k2_ : Nat) : Int)), (40, .rv (.sl 4 ((l.take k2_).map Cluster.cells))), (41, vi (((l.take k2_).length : Nat) : Int)), (42, vi 0)] [(0, .box 26 (avs (Cluster.cells e2_)))] 1 (fun hl => ?_)
      obtain ⟨hn10, -⟩ := hl
      refine AWp.block ?_
      refine AWp.loop (ι := Nat) (fun k3_ => Z 54 [(0, .rv (.sl 4 (l.map Cluster.cells))), (6, .ptr 0 0), (28, .rv (.sl 4 (l.map Cluster.cells))), (29, vi ((l.length : Nat) : Int)), (30, vi ((k2_ : Nat) : Int)), (40, .rv (.sl 4 ((l.take k2_).map Cluster.cells))), (41, vi (((l.take k2_).length : Nat) : Int)), (42, vi ((k3_ : Nat) : Int))] [(0, .box 26 (avs (Cluster.cells e2_)))] 1) (fun k3_ => k3_ ≤ ((l.take k2_).length) ∧ lPartsM_L3 l k2_ e2_ = scanN (lPartsM_B3 l k2_ e2_) k3_ (((l.take k2_).length) - k3_)) (fun k3_ => ((l.take k2_).length) - k3_) 0 leZ ⟨Nat.zero_le _, rfl⟩ ?_
      intro k3_ ⟨hk3_, hs3_⟩
      refine AWp.hz [.run 1] 54 [(0, .rv (.sl 4 (l.map Cluster.cells))), (6, .ptr 0 0), (28, .rv (.sl 4 (l.map Cluster.cells))), (29, vi ((l.length : Nat) : Int)), (30, vi ((k2_ : Nat) : Int)), (40, .rv (.sl 4 ((l.take k2_).map Cluster.cells))), (41, vi (((l.take k2_).length : Nat) : Int)), (42, vi ((k3_ : Nat) : Int)), (43, vb (decide (((k3_ : Nat) : Int) < (((l.take k2_).length : Nat) : Int))))] [(0, .box 26 (avs (Cluster.cells e2_)))] 1 ?_
      refine AWp.seq ?_
      refine AWp.cnd (decide (((k3_ : Nat) : Int) < (((l.take k2_).length : Nat) : Int))) (fun h11 => ?_) (fun h11 => ?_)
      ·
       have h11' := of_decide_eq_true h11
       refine AWp.skip ?_
       refine AWp.seq ?_
       refine AWp.block ?_
       obtain ⟨e3_, he3_⟩ : ∃ e_, ((l.take k2_))[k3_]? = some e_ := ⟨_, List.getElem?_eq_getElem (by first | omega | (simp only [List.length_take]; omega))⟩
       refine AWp.hz [.idx Cluster.cells (l.take k2_) 4 k3_ e3_ he3_, .run 3] 54 [(0, .rv (.sl 4 (l.map Cluster.cells))), (6, .ptr 0 0), (8, .ptr 1 0), (28, .rv (.sl 4 (l.map Cluster.cells))), (29, vi ((l.length : Nat) : Int)), (30, vi ((k2_ : Nat) : Int)), (40, .rv (.sl 4 ((l.take k2_).map Cluster.cells))), (41, vi (((l.take k2_).length : Nat) : Int)), (42, vi ((k3_ : Nat) : Int))] [(1, .box 26 (avs (Cluster.cells e3_))), (0, .box 26 (avs (Cluster.cells e2_)))] 2 ?_
       refine AWp.hz [.run 5] 54 [(0, .rv (.sl 4 (l.map Cluster.cells))), (6, .ptr 0 0), (28, .rv (.sl 4 (l.map Cluster.cells))), (29, vi ((l.length : Nat) : Int)), (30, vi ((k2_ : Nat) : Int)), (40, .rv (.sl 4 ((l.take k2_).map Cluster.cells))), (41, vi (((l.take k2_).length : Nat) : Int)), (42, vi ((k3_ : Nat) : Int)), (50, vb (beqS e2_.name e3_.name))] [(0, .box 26 (avs (Cluster.cells e2_)))] 2 ?_
       refine AWp.cnd (beqS e2_.name e3_.name) (fun h12 => ?_) (fun h12 => ?_)
       ·
        refine AWp.hz [.run 1] 54 [(2, vb false)] [] 2 ?_
        refine AWp.ret ?_
        have hL3_ : lPartsM_L3 l k2_ e2_ = some false := scanN_some hs3_ (by omega) (by unfold lPartsM_B3; (try simp only [he2_]); (try simp only [he3_]); (try rw [h11]); (try rw [h12]); first | done | kernel_rfl)
        have hL2_ : lPartsM_L2 l = some false := scanN_some hs2_ (by omega) (by unfold lPartsM_B2; (try simp only [he2_]); (try simp only [he3_]); (try rw [h8]); (try rw [h9]); (try rw [h11]); (try rw [h12]); (try rw [hL3_]); first | done | kernel_rfl)
        exact leafR (r := vb false) (by unfold lPartsM; (try rw [h2]); (try rw [hL1_]); (try rw [h6]); (try rw [hL2_]); first | done | kernel_rfl)
       ·
        refine AWp.skip ?_
        refine AWp.he [.cast (vi (IntKind.i64.wrap (((k3_ : Nat) : Int) + 1))) (vi ((k3_ + 1 : Nat) : Int)) (congrArg vi (wrap_nat (by omega))), .run 1] 54 [(0, .rv (.sl 4 (l.map Cluster.cells))), (6, .ptr 0 0), (28, .rv (.sl 4 (l.map Cluster.cells))), (29, vi ((l.length : Nat) : Int)), (30, vi ((k2_ : Nat) : Int)), (40, .rv (.sl 4 ((l.take k2_).map Cluster.cells))), (41, vi (((l.take k2_).length : Nat) : Int)), (42, vi ((k3_ + 1 : Nat) : Int))] [(0, .box 26 (avs (Cluster.cells e2_)))] 2 ?_
        exact ⟨k3_ + 1, ⟨by omega, scanN_none hs3_ (by omega) (by unfold lPartsM_B3; (try simp only [he2_]); (try simp only [he3_]); (try rw [h11]); (try rw [h12]); first | done | kernel_rfl)⟩, by omega, leG⟩
      ·
       have h11' := of_decide_eq_false h11
       refine AWp.exit ?_
       have hL3_ : lPartsM_L3 l k2_ e2_ = none := scanN_end hs3_ (by omega)
       refine AWp.he [.cast (vi (IntKind.i64.wrap (((k2_ : Nat) : Int) + 1))) (vi ((k2_ + 1 : Nat) : Int)) (congrArg vi (wrap_nat (by omega))), .run 1] 54 [(0, .rv (.sl 4 (l.map Cluster.cells))), (28, .rv (.sl 4 (l.map Cluster.cells))), (29, vi ((l.length : Nat) : Int)), (30, vi ((k2_ + 1 : Nat) : Int))] [] 1 ?_
       exact ⟨k2_ + 1, ⟨by omega, scanN_none hs2_ (by omega) (by unfold lPartsM_B2; (try simp only [he2_]); (try rw [h8]); (try rw [h9]); (try rw [hL3_]); first | done | kernel_rfl)⟩, by omega, leG⟩
    ·
     have h8' := of_decide_eq_false h8
     refine AWp.exit ?_
     have hL2_ : lPartsM_L2 l = none := scanN_end hs2_ (by omega)
     refine AWp.hz [.call 12 [] (vb true) [] 0 (awake_ok), .run 1] 54 [(2, vb true)] [] 0 ?_
     refine AWp.ret ?_
     exact leafR (r := vb true) (by unfold lPartsM; (try rw [h2]); (try rw [hL1_]); (try rw [h6]); (try rw [hL2_]); first | done | kernel_rfl)
end Go.Proofs.YtelohjccoimnaaaDoor
