/- The statement about lists: the contract. -/
import Derived.Test.YtelohjccoimnaaaDoorA11
import Derived.Test.YtelohjccoimnaaaDoorMz
namespace Go.Proofs.YtelohjccoimnaaaDoor
open Go Go.Av Go.Hh Go.Proofs
set_option maxRecDepth 100000
set_option maxHeartbeats 4000000
def lListsM_B1 (l : List Cluster) (k1_ : Nat) : Option Bool :=
  (match (l)[k1_]? with | some e1_ => (bif !(smallM e1_) then some true else none) | none => none)
def lListsM_L1 (l : List Cluster) : Option Bool := scanN (lListsM_B1 l) 0 l.length
def lListsM (l : List Cluster) : Bool :=
  (decide (((l.length : Nat) : Int) > 12) || (lListsM_L1 l).getD (bif (allM l != rallM l) then false else (bif decide (((l.length : Nat) : Int) > 0) then (match (l)[0]? with | some e2_ => (allM (l ++ [e2_]) == rallM (l ++ [e2_])) | none => false) else (allM l == rallM l))))
theorem lists_fit {l : List Cluster} (h : lListsM_L1 l = none) : ∀ c ∈ l, Fit c := by
  intro c hc
  obtain ⟨k, hk, rfl⟩ := List.mem_iff_getElem.1 hc
  have := scanN_all.1 h k (Nat.zero_le _) (by omega)
  unfold lListsM_B1 at this
  rw [List.getElem?_eq_getElem hk] at this
  simp only [cond_eq_ite] at this
  split at this
  · cases this
  · rename_i h2
    exact fit_small (by simpa using h2)
theorem lists_fit1 {l : List Cluster} {e : Cluster} (h : lListsM_L1 l = none) (he : l[0]? = some e) : ∀ c ∈ l ++ [e], Fit c := fun c hc => by
  rcases List.mem_append.1 hc with hc | hc
  · exact lists_fit h c hc
  · rw [List.mem_singleton.1 hc]
    exact lists_fit h e (List.mem_of_getElem? he)
theorem lListsM_ok (l : List Cluster) :
 ACalls Tryd.prog G_ 8 [.rv (.sl 4 (l.map Cluster.cells))] [] 0 (fun r τ => r = vb (lListsM l) ∧ τ = []) := by
 refine ACalls.body Tryd.func8 rfl 44 [(0, .rv (.sl 4 (l.map Cluster.cells)))] ?_
 refine AWp.hz [.run 1] 44 [(0, .rv (.sl 4 (l.map Cluster.cells)))] [] 0 ?_
 refine AWp.seq ?_
 refine AWp.hzl [.run 1, .len Cluster.cells l 4, .run 1] 44 [(0, .rv (.sl 4 (l.map Cluster.cells))), (7, vb (decide (((l.length : Nat) : Int) > 12)))] [] 0 (fun hl => ?_)
 obtain ⟨hn1, -⟩ := hl
 refine AWp.cnd (decide (((l.length : Nat) : Int) > 12)) (fun h2 => ?_) (fun h2 => ?_)
 ·
  have h2' := of_decide_eq_true h2
  refine AWp.hz [.call 12 [] (vb true) [] 0 (awake_ok), .run 1] 44 [(2, vb true)] [] 0 ?_
  refine AWp.ret ?_
  exact leafR (r := vb true) (by unfold lListsM; (try rw [h2]); first | done | kernel_rfl)
 ·
  have h2' := of_decide_eq_false h2
  refine AWp.skip ?_
  refine AWp.seq ?_
  refine AWp.hzl [.run 1, .len Cluster.cells l 4, .run 1] 44 [(0, .rv (.sl 4 (l.map Cluster.cells))), (9, .rv (.sl 4 (l.map Cluster.cells))), (10, vi ((l.length : Nat) : Int)), (11, vi 0)] [] 0 (fun hl => ?_)
  obtain ⟨hn3, -⟩ := hl
  refine AWp.block ?_
  refine AWp.loop (ι := Nat) (fun k1_ => Z 44 [(0, .rv (.sl 4 (l.map Cluster.cells))), (9, .rv (.sl 4 (l.map Cluster.cells))), (10, vi ((l.length : Nat) : Int)), (11, vi ((k1_ : Nat) : Int))] [] 0) (fun k1_ => k1_ ≤ l.length ∧ lListsM_L1 l = scanN (lListsM_B1 l) k1_ (l.length - k1_)) (fun k1_ => l.length - k1_) 0 leZ ⟨Nat.zero_le _, rfl⟩ ?_
  intro k1_ ⟨hk1_, hs1_⟩
  refine AWp.hz [.run 1] 44 [(0, .rv (.sl 4 (l.map Cluster.cells))), (9, .rv (.sl 4 (l.map Cluster.cells))), (10, vi ((l.length : Nat) : Int)), (11, vi ((k1_ : Nat) : Int)), (12, vb (decide (((k1_ : Nat) : Int) < ((l.length : Nat) : Int))))] [] 0 ?_
  refine AWp.seq ?_
  refine AWp.cnd (decide (((k1_ : Nat) : Int) < ((l.length : Nat) : Int))) (fun h4 => ?_) (fun h4 => ?_)
  ·
   have h4' := of_decide_eq_true h4
   refine AWp.skip ?_
   refine AWp.seq ?_
   refine AWp.block ?_
   obtain ⟨e1_, he1_⟩ : ∃ e_, (l)[k1_]? = some e_ := ⟨_, List.getElem?_eq_getElem (by omega)⟩
   refine AWp.hz [.idx Cluster.cells l 4 k1_ e1_ he1_, .run 3] 44 [(0, .rv (.sl 4 (l.map Cluster.cells))), (4, .ptr 0 0), (9, .rv (.sl 4 (l.map Cluster.cells))), (10, vi ((l.length : Nat) : Int)), (11, vi ((k1_ : Nat) : Int))] [(0, .box 26 (avs (Cluster.cells e1_)))] 1 ?_
   refine AWp.hz [.run 1, .call 11 [.agg (avs (Cluster.cells e1_))] (vb (smallM e1_)) [] 0 (smallM_ok e1_), .run 1] 44 [(0, .rv (.sl 4 (l.map Cluster.cells))), (9, .rv (.sl 4 (l.map Cluster.cells))), (10, vi ((l.length : Nat) : Int)), (11, vi ((k1_ : Nat) : Int)), (17, vb (!(smallM e1_)))] [] 1 ?_
   refine AWp.cnd (!(smallM e1_)) (fun h5 => ?_) (fun h5 => ?_)
   ·
    refine AWp.hz [.call 12 [] (vb true) [] 0 (awake_ok), .run 1] 44 [(2, vb true)] [] 1 ?_
    refine AWp.ret ?_
    have hL1_ : lListsM_L1 l = some true := scanN_some hs1_ (by omega) (by unfold lListsM_B1; (try simp only [he1_]); (try rw [h4]); (try rw [h5]); first | done | kernel_rfl)
    exact leafR (r := vb true) (by unfold lListsM; (try rw [h2]); (try rw [hL1_]); first | done | kernel_rfl)
   ·
    refine AWp.skip ?_
    refine AWp.he [.cast (vi (IntKind.i64.wrap (((k1_ : Nat) : Int) + 1))) (vi ((k1_ + 1 : Nat) : Int)) (congrArg vi (wrap_nat (by omega))), .run 1] 44 [(0, .rv (.sl 4 (l.map Cluster.cells))), (9, .rv (.sl 4 (l.map Cluster.cells))), (10, vi ((l.length : Nat) : Int)), (11, vi ((k1_ + 1 : Nat) : Int))] [] 1 ?_
    exact ⟨k1_ + 1, ⟨by omega, scanN_none hs1_ (by omega) (by unfold lListsM_B1; (try simp only [he1_]); (try rw [h4]); (try rw [h5]); first | done | kernel_rfl)⟩, by omega, leG⟩
  ·
   have h4' := of_decide_eq_false h4
   refine AWp.exit ?_
   have hL1_ : lListsM_L1 l = none := scanN_end hs1_ (by omega)
   refine AWp.seq ?_
   refine AWp.hz [.run 1, .call 25 [.rv (.sl 4 (l.map Cluster.cells))] (vi (allM l)) [] 0 (allM_ok l (by first | exact lists_fit (by assumption) | exact lists_fit1 (by assumption) (by assumption) | exact lists_fit (by assumption) _ (List.mem_of_getElem? (by assumption)))), .run 1, .call 26 [.rv (.sl 4 (l.map Cluster.cells))] (vi (rallM l)) [] 0 (rallM_ok l), .run 1] 44 [(0, .rv (.sl 4 (l.map Cluster.cells))), (24, vb (allM l != rallM l))] [] 0 ?_
   refine AWp.cnd ((allM l != rallM l)) (fun h6 => ?_) (fun h6 => ?_)
   ·
    refine AWp.hz [.run 1] 44 [(2, vb false)] [] 0 ?_
    refine AWp.ret ?_
    exact leafR (r := vb false) (by unfold lListsM; (try rw [h2]); (try rw [hL1_]); (try rw [h6]); first | done | kernel_rfl)
   ·
    refine AWp.skip ?_
    refine AWp.seq ?_
    refine AWp.hzl [.run 1, .len Cluster.cells l 4, .run 1] 44 [(0, .rv (.sl 4 (l.map Cluster.cells))), (27, vb (decide (((l.length : Nat) : Int) > 0)))] [] 0 (fun hl => ?_)
    obtain ⟨hn7, -⟩ := hl
    refine AWp.cnd (decide (((l.length : Nat) : Int) > 0)) (fun h8 => ?_) (fun h8 => ?_)
    ·
     have h8' := of_decide_eq_true h8
     obtain ⟨e2_, he2_⟩ : ∃ e_, (l)[0]? = some e_ := ⟨_, List.getElem?_eq_getElem (by omega)⟩
     refine AWp.cut (fuel := 0) (m := [true, true, true, true, true, true, true, true, true]) (s := Z 44 [(0, .sl 0)] [(0, .row false 26 4 ((l ++ [e2_]).map Cluster.cells))] 1) (AD.done ?_) (fun hd9 => ?_)
     ·
      refine AWp.join (Z 44 [(2, vb (allM (l ++ [e2_]) == rallM (l ++ [e2_])))] [] 1) ?_ ?_
      ·
       refine AWp.region ?_
       refine AOps.hg [.run 1, .frz 0, .call 25 [.rv (.sl 4 ((l ++ [e2_]).map Cluster.cells))] (vi (allM (l ++ [e2_]))) [] 0 (allM_ok (l ++ [e2_]) (by first | exact lists_fit (by assumption) | exact lists_fit1 (by assumption) (by assumption) | exact lists_fit (by assumption) _ (List.mem_of_getElem? (by assumption)))), .run 1, .call 26 [.rv (.sl 4 ((l ++ [e2_]).map Cluster.cells))] (vi (rallM (l ++ [e2_]))) [] 0 (rallM_ok (l ++ [e2_])), .run 2] ((allM (l ++ [e2_]) == rallM (l ++ [e2_]))) 44 (fun b_ => [(41, vb b_)]) [] 1 (fun hg10 => ?_) (fun hg10 => ?_)
       ·
        refine AOps.he [.call 12 [] (vb true) [] 0 (awake_ok), .run 2] 44 [(2, vb true)] [] 1 ?_
        exact leZ (by rw [hg10]; first | done | kernel_rfl)
       ·
        refine AOps.he [.run 3] 44 [(2, vb false)] [] 1 ?_
        exact leZ (by rw [hg10]; first | done | kernel_rfl)
      ·
       refine AWp.ret ?_
       exact leafR (r := vb (allM (l ++ [e2_]) == rallM (l ++ [e2_]))) (by unfold lListsM; (try simp only [he2_]); (try rw [h2]); (try rw [hL1_]); (try rw [h6]); (try rw [h8]); first | done | kernel_rfl)
     refine AWp.cut (fuel := 1) (m := [true, true, true, true, true, true, true, true, false]) (s := Z 44 [(0, .rv (.sl 4 (l.map Cluster.cells))), (35, .sl 0)] [(0, .row false 26 4 ((l ++ [e2_]).map Cluster.cells))] 1) (AD.step 8 [] (ADs.cons _ rfl (AOps.he [.run 1] 44 [(0, .sl 0)] [(0, .row false 26 4 ((l ++ [e2_]).map Cluster.cells))] 1 ⟨rfl, rfl⟩) hd9 (ADs.nil))) (fun hd11 => ?_)
     refine AWp.cut (fuel := 2) (m := [true, true, true, true, true, true, true, false, false]) (s := Z 44 [(0, .rv (.sl 4 (l.map Cluster.cells))), (30, .sl 0), (34, .rv (.sl 4 (([e2_]).map Cluster.cells)))] [(0, .row false 26 4 (l.map Cluster.cells))] 1) (AD.step 7 [] (ADs.cons _ rfl (AOps.he [.app Cluster.cells l ([e2_]) 0 26 4 88 (apSz (by simp; omega))] 44 [(0, .rv (.sl 4 (l.map Cluster.cells))), (35, .sl 0)] [(0, .row false 26 4 ((l ++ [e2_]).map Cluster.cells))] 1 ⟨rfl, rfl⟩) hd11 (ADs.nil))) (fun hd12 => ?_)
     refine AWp.cut (fuel := 3) (m := [true, true, true, true, true, true, false, false, false]) (s := Z 44 [(0, .rv (.sl 4 (l.map Cluster.cells))), (30, .sl 0), (33, .agg (avs (Cluster.cells e2_)))] [(0, .row false 26 4 (l.map Cluster.cells))] 1) (AD.step 6 [] (ADs.cons _ rfl (AOps.he [.lit 26 4 (List.map Cluster.cells [e2_])] 44 [(0, .rv (.sl 4 (l.map Cluster.cells))), (30, .sl 0), (34, .rv (.sl 4 (([e2_]).map Cluster.cells)))] [(0, .row false 26 4 (l.map Cluster.cells))] 1 ⟨rfl, rfl⟩) hd12 (ADs.nil))) (fun hd13 => ?_)
     refine AWp.cut (fuel := 3) (m := [true, true, false, true, true, true, true, false, false]) (s := Z 44 [(0, .rv (.sl 4 (l.map Cluster.cells))), (28, .sl 0), (29, .rv (.sl 4 (l.map Cluster.cells))), (34, .rv (.sl 4 (([e2_]).map Cluster.cells)))] [(0, .row false 26 4 ([]))] 1) (AD.step 2 [] (ADs.cons _ rfl (AOps.he [.app Cluster.cells ([]) l 0 26 4 88 (apSz (by simp; omega))] 44 [(0, .rv (.sl 4 (l.map Cluster.cells))), (30, .sl 0), (34, .rv (.sl 4 (([e2_]).map Cluster.cells)))] [(0, .row false 26 4 (l.map Cluster.cells))] 1 ⟨rfl, rfl⟩) hd12 (ADs.nil))) (fun hd14 => ?_)
     refine AWp.cut (fuel := 4) (m := [true, true, true, true, true, false, false, false, false]) (s := Z 44 [(0, .rv (.sl 4 (l.map Cluster.cells))), (30, .sl 0), (32, .rv (.ptr (Cluster.cells e2_)))] [(0, .row false 26 4 (l.map Cluster.cells))] 1) (AD.step 5 [] (ADs.cons _ rfl (AOps.he [.run 1] 44 [(0, .rv (.sl 4 (l.map Cluster.cells))), (30, .sl 0), (33, .agg (avs (Cluster.cells e2_)))] [(0, .row false 26 4 (l.map Cluster.cells))] 1 ⟨rfl, rfl⟩) hd13 (ADs.nil))) (fun hd15 => ?_)
     refine AWp.cut (fuel := 4) (m := [true, true, false, true, true, true, false, false, false]) (s := Z 44 [(0, .rv (.sl 4 (l.map Cluster.cells))), (28, .sl 0), (29, .rv (.sl 4 (l.map Cluster.cells))), (33, .agg (avs (Cluster.cells e2_)))] [(0, .row false 26 4 ([]))] 1) (AD.step 2 [6] (ADs.cons _ rfl (AOps.he [.app Cluster.cells ([]) l 0 26 4 88 (apSz (by simp; omega))] 44 [(0, .rv (.sl 4 (l.map Cluster.cells))), (30, .sl 0), (33, .agg (avs (Cluster.cells e2_)))] [(0, .row false 26 4 (l.map Cluster.cells))] 1 ⟨rfl, rfl⟩) hd13 (ADs.cons _ rfl (AOps.he [.lit 26 4 (List.map Cluster.cells [e2_])] 44 [(0, .rv (.sl 4 (l.map Cluster.cells))), (28, .sl 0), (29, .rv (.sl 4 (l.map Cluster.cells))), (34, .rv (.sl 4 (([e2_]).map Cluster.cells)))] [(0, .row false 26 4 ([]))] 1 ⟨rfl, rfl⟩) hd14 (ADs.nil)))) (fun hd16 => ?_)
     refine AWp.cut (fuel := 4) (m := [true, false, false, true, true, true, true, false, false]) (s := Z 44 [(0, .rv (.sl 4 (l.map Cluster.cells))), (28, .sl 0), (34, .rv (.sl 4 (([e2_]).map Cluster.cells)))] [(0, .row false 26 4 ([]))] 1) (AD.step 1 [] (ADs.cons _ rfl (AOps.he [.run 1] 44 [(0, .rv (.sl 4 (l.map Cluster.cells))), (28, .sl 0), (29, .rv (.sl 4 (l.map Cluster.cells))), (34, .rv (.sl 4 (([e2_]).map Cluster.cells)))] [(0, .row false 26 4 ([]))] 1 ⟨rfl, rfl⟩) hd14 (ADs.nil))) (fun hd17 => ?_)
     refine AWp.cut (fuel := 4) (m := [false, true, false, true, true, true, true, false, false]) (s := Z 44 [(0, .rv (.sl 4 (l.map Cluster.cells))), (29, .rv (.sl 4 (l.map Cluster.cells))), (34, .rv (.sl 4 (([e2_]).map Cluster.cells)))] [] 0) (AD.step 0 [] (ADs.cons _ rfl (AOps.he [.row 26 4 []] 44 [(0, .rv (.sl 4 (l.map Cluster.cells))), (28, .sl 0), (29, .rv (.sl 4 (l.map Cluster.cells))), (34, .rv (.sl 4 (([e2_]).map Cluster.cells)))] [(0, .row false 26 4 ([]))] 1 ⟨rfl, rfl⟩) hd14 (ADs.nil))) (fun hd18 => ?_)
     refine AWp.cut (fuel := 5) (m := [true, true, true, true, false, false, false, false, false]) (s := Z 44 [(0, .rv (.sl 4 (l.map Cluster.cells))), (30, .sl 0), (31, .rv (.sl 4 (l.map Cluster.cells)))] [(0, .row false 26 4 (l.map Cluster.cells))] 1) (AD.step 4 [] (ADs.cons _ rfl (AOps.he [.idx Cluster.cells l 4 0 e2_ he2_] 44 [(0, .rv (.sl 4 (l.map Cluster.cells))), (30, .sl 0), (32, .rv (.ptr (Cluster.cells e2_)))] [(0, .row false 26 4 (l.map Cluster.cells))] 1 ⟨rfl, rfl⟩) hd15 (ADs.nil))) (fun hd19 => ?_)
     refine AWp.cut (fuel := 5) (m := [true, true, false, true, true, false, false, false, false]) (s := Z 44 [(0, .rv (.sl 4 (l.map Cluster.cells))), (28, .sl 0), (29, .rv (.sl 4 (l.map Cluster.cells))), (32, .rv (.ptr (Cluster.cells e2_)))] [(0, .row false 26 4 ([]))] 1) (AD.step 2 [5] (ADs.cons _ rfl (AOps.he [.app Cluster.cells ([]) l 0 26 4 88 (apSz (by simp; omega))] 44 [(0, .rv (.sl 4 (l.map Cluster.cells))), (30, .sl 0), (32, .rv (.ptr (Cluster.cells e2_)))] [(0, .row false 26 4 (l.map Cluster.cells))] 1 ⟨rfl, rfl⟩) hd15 (ADs.cons _ rfl (AOps.he [.run 1] 44 [(0, .rv (.sl 4 (l.map Cluster.cells))), (28, .sl 0), (29, .rv (.sl 4 (l.map Cluster.cells))), (33, .agg (avs (Cluster.cells e2_)))] [(0, .row false 26 4 ([]))] 1 ⟨rfl, rfl⟩) hd16 (ADs.nil)))) (fun hd20 => ?_)
     refine AWp.cut (fuel := 5) (m := [true, false, false, true, true, true, false, false, false]) (s := Z 44 [(0, .rv (.sl 4 (l.map Cluster.cells))), (28, .sl 0), (33, .agg (avs (Cluster.cells e2_)))] [(0, .row false 26 4 ([]))] 1) (AD.step 1 [6] (ADs.cons _ rfl (AOps.he [.run 1] 44 [(0, .rv (.sl 4 (l.map Cluster.cells))), (28, .sl 0), (29, .rv (.sl 4 (l.map Cluster.cells))), (33, .agg (avs (Cluster.cells e2_)))] [(0, .row false 26 4 ([]))] 1 ⟨rfl, rfl⟩) hd16 (ADs.cons _ rfl (AOps.he [.lit 26 4 (List.map Cluster.cells [e2_])] 44 [(0, .rv (.sl 4 (l.map Cluster.cells))), (28, .sl 0), (34, .rv (.sl 4 (([e2_]).map Cluster.cells)))] [(0, .row false 26 4 ([]))] 1 ⟨rfl, rfl⟩) hd17 (ADs.nil)))) (fun hd21 => ?_)
     refine AWp.cut (fuel := 5) (m := [false, true, false, true, true, true, false, false, false]) (s := Z 44 [(0, .rv (.sl 4 (l.map Cluster.cells))), (29, .rv (.sl 4 (l.map Cluster.cells))), (33, .agg (avs (Cluster.cells e2_)))] [] 0) (AD.step 0 [6] (ADs.cons _ rfl (AOps.he [.row 26 4 []] 44 [(0, .rv (.sl 4 (l.map Cluster.cells))), (28, .sl 0), (29, .rv (.sl 4 (l.map Cluster.cells))), (33, .agg (avs (Cluster.cells e2_)))] [(0, .row false 26 4 ([]))] 1 ⟨rfl, rfl⟩) hd16 (ADs.cons _ rfl (AOps.he [.lit 26 4 (List.map Cluster.cells [e2_])] 44 [(0, .rv (.sl 4 (l.map Cluster.cells))), (29, .rv (.sl 4 (l.map Cluster.cells))), (34, .rv (.sl 4 (([e2_]).map Cluster.cells)))] [] 0 ⟨rfl, rfl⟩) hd18 (ADs.nil)))) (fun hd22 => ?_)
     refine AWp.cut (fuel := 5) (m := [false, false, false, true, true, true, true, false, false]) (s := Z 44 [(0, .rv (.sl 4 (l.map Cluster.cells))), (34, .rv (.sl 4 (([e2_]).map Cluster.cells)))] [] 0) (AD.step 0 [1] (ADs.cons _ rfl (AOps.he [.row 26 4 []] 44 [(0, .rv (.sl 4 (l.map Cluster.cells))), (28, .sl 0), (34, .rv (.sl 4 (([e2_]).map Cluster.cells)))] [(0, .row false 26 4 ([]))] 1 ⟨rfl, rfl⟩) hd17 (ADs.cons _ rfl (AOps.he [.run 1] 44 [(0, .rv (.sl 4 (l.map Cluster.cells))), (29, .rv (.sl 4 (l.map Cluster.cells))), (34, .rv (.sl 4 (([e2_]).map Cluster.cells)))] [] 0 ⟨rfl, rfl⟩) hd18 (ADs.nil)))) (fun hd23 => ?_)
     refine AWp.cut (fuel := 6) (m := [true, true, true, false, false, false, false, false, false]) (s := Z 44 [(0, .rv (.sl 4 (l.map Cluster.cells))), (30, .sl 0)] [(0, .row false 26 4 (l.map Cluster.cells))] 1) (AD.step 3 [] (ADs.cons _ rfl (AOps.he [.run 1] 44 [(0, .rv (.sl 4 (l.map Cluster.cells))), (30, .sl 0), (31, .rv (.sl 4 (l.map Cluster.cells)))] [(0, .row false 26 4 (l.map Cluster.cells))] 1 ⟨rfl, rfl⟩) hd19 (ADs.nil))) (fun hd24 => ?_)
     refine AWp.cut (fuel := 6) (m := [true, true, false, true, false, false, false, false, false]) (s := Z 44 [(0, .rv (.sl 4 (l.map Cluster.cells))), (28, .sl 0), (29, .rv (.sl 4 (l.map Cluster.cells))), (31, .rv (.sl 4 (l.map Cluster.cells)))] [(0, .row false 26 4 ([]))] 1) (AD.step 2 [4] (ADs.cons _ rfl (AOps.he [.app Cluster.cells ([]) l 0 26 4 88 (apSz (by simp; omega))] 44 [(0, .rv (.sl 4 (l.map Cluster.cells))), (30, .sl 0), (31, .rv (.sl 4 (l.map Cluster.cells)))] [(0, .row false 26 4 (l.map Cluster.cells))] 1 ⟨rfl, rfl⟩) hd19 (ADs.cons _ rfl (AOps.he [.idx Cluster.cells l 4 0 e2_ he2_] 44 [(0, .rv (.sl 4 (l.map Cluster.cells))), (28, .sl 0), (29, .rv (.sl 4 (l.map Cluster.cells))), (32, .rv (.ptr (Cluster.cells e2_)))] [(0, .row false 26 4 ([]))] 1 ⟨rfl, rfl⟩) hd20 (ADs.nil)))) (fun hd25 => ?_)
     refine AWp.cut (fuel := 6) (m := [true, false, false, true, true, false, false, false, false]) (s := Z 44 [(0, .rv (.sl 4 (l.map Cluster.cells))), (28, .sl 0), (32, .rv (.ptr (Cluster.cells e2_)))] [(0, .row false 26 4 ([]))] 1) (AD.step 1 [5] (ADs.cons _ rfl (AOps.he [.run 1] 44 [(0, .rv (.sl 4 (l.map Cluster.cells))), (28, .sl 0), (29, .rv (.sl 4 (l.map Cluster.cells))), (32, .rv (.ptr (Cluster.cells e2_)))] [(0, .row false 26 4 ([]))] 1 ⟨rfl, rfl⟩) hd20 (ADs.cons _ rfl (AOps.he [.run 1] 44 [(0, .rv (.sl 4 (l.map Cluster.cells))), (28, .sl 0), (33, .agg (avs (Cluster.cells e2_)))] [(0, .row false 26 4 ([]))] 1 ⟨rfl, rfl⟩) hd21 (ADs.nil)))) (fun hd26 => ?_)
     refine AWp.cut (fuel := 6) (m := [false, true, false, true, true, false, false, false, false]) (s := Z 44 [(0, .rv (.sl 4 (l.map Cluster.cells))), (29, .rv (.sl 4 (l.map Cluster.cells))), (32, .rv (.ptr (Cluster.cells e2_)))] [] 0) (AD.step 0 [5] (ADs.cons _ rfl (AOps.he [.row 26 4 []] 44 [(0, .rv (.sl 4 (l.map Cluster.cells))), (28, .sl 0), (29, .rv (.sl 4 (l.map Cluster.cells))), (32, .rv (.ptr (Cluster.cells e2_)))] [(0, .row false 26 4 ([]))] 1 ⟨rfl, rfl⟩) hd20 (ADs.cons _ rfl (AOps.he [.run 1] 44 [(0, .rv (.sl 4 (l.map Cluster.cells))), (29, .rv (.sl 4 (l.map Cluster.cells))), (33, .agg (avs (Cluster.cells e2_)))] [] 0 ⟨rfl, rfl⟩) hd22 (ADs.nil)))) (fun hd27 => ?_)
     refine AWp.cut (fuel := 6) (m := [false, false, false, true, true, true, false, false, false]) (s := Z 44 [(0, .rv (.sl 4 (l.map Cluster.cells))), (33, .agg (avs (Cluster.cells e2_)))] [] 0) (AD.step 0 [1, 6] (ADs.cons _ rfl (AOps.he [.row 26 4 []] 44 [(0, .rv (.sl 4 (l.map Cluster.cells))), (28, .sl 0), (33, .agg (avs (Cluster.cells e2_)))] [(0, .row false 26 4 ([]))] 1 ⟨rfl, rfl⟩) hd21 (ADs.cons _ rfl (AOps.he [.run 1] 44 [(0, .rv (.sl 4 (l.map Cluster.cells))), (29, .rv (.sl 4 (l.map Cluster.cells))), (33, .agg (avs (Cluster.cells e2_)))] [] 0 ⟨rfl, rfl⟩) hd22 (ADs.cons _ rfl (AOps.he [.lit 26 4 (List.map Cluster.cells [e2_])] 44 [(0, .rv (.sl 4 (l.map Cluster.cells))), (34, .rv (.sl 4 (([e2_]).map Cluster.cells)))] [] 0 ⟨rfl, rfl⟩) hd23 (ADs.nil))))) (fun hd28 => ?_)
     refine AWp.cut (fuel := 7) (m := [true, true, false, false, false, false, false, false, false]) (s := Z 44 [(0, .rv (.sl 4 (l.map Cluster.cells))), (28, .sl 0), (29, .rv (.sl 4 (l.map Cluster.cells)))] [(0, .row false 26 4 ([]))] 1) (AD.step 2 [3] (ADs.cons _ rfl (AOps.he [.app Cluster.cells ([]) l 0 26 4 88 (apSz (by simp; omega))] 44 [(0, .rv (.sl 4 (l.map Cluster.cells))), (30, .sl 0)] [(0, .row false 26 4 (l.map Cluster.cells))] 1 ⟨rfl, rfl⟩) hd24 (ADs.cons _ rfl (AOps.he [.run 1] 44 [(0, .rv (.sl 4 (l.map Cluster.cells))), (28, .sl 0), (29, .rv (.sl 4 (l.map Cluster.cells))), (31, .rv (.sl 4 (l.map Cluster.cells)))] [(0, .row false 26 4 ([]))] 1 ⟨rfl, rfl⟩) hd25 (ADs.nil)))) (fun hd29 => ?_)
     refine AWp.cut (fuel := 7) (m := [true, false, false, true, false, false, false, false, false]) (s := Z 44 [(0, .rv (.sl 4 (l.map Cluster.cells))), (28, .sl 0), (31, .rv (.sl 4 (l.map Cluster.cells)))] [(0, .row false 26 4 ([]))] 1) (AD.step 1 [4] (ADs.cons _ rfl (AOps.he [.run 1] 44 [(0, .rv (.sl 4 (l.map Cluster.cells))), (28, .sl 0), (29, .rv (.sl 4 (l.map Cluster.cells))), (31, .rv (.sl 4 (l.map Cluster.cells)))] [(0, .row false 26 4 ([]))] 1 ⟨rfl, rfl⟩) hd25 (ADs.cons _ rfl (AOps.he [.idx Cluster.cells l 4 0 e2_ he2_] 44 [(0, .rv (.sl 4 (l.map Cluster.cells))), (28, .sl 0), (32, .rv (.ptr (Cluster.cells e2_)))] [(0, .row false 26 4 ([]))] 1 ⟨rfl, rfl⟩) hd26 (ADs.nil)))) (fun hd30 => ?_)
     refine AWp.cut (fuel := 7) (m := [false, true, false, true, false, false, false, false, false]) (s := Z 44 [(0, .rv (.sl 4 (l.map Cluster.cells))), (29, .rv (.sl 4 (l.map Cluster.cells))), (31, .rv (.sl 4 (l.map Cluster.cells)))] [] 0) (AD.step 0 [4] (ADs.cons _ rfl (AOps.he [.row 26 4 []] 44 [(0, .rv (.sl 4 (l.map Cluster.cells))), (28, .sl 0), (29, .rv (.sl 4 (l.map Cluster.cells))), (31, .rv (.sl 4 (l.map Cluster.cells)))] [(0, .row false 26 4 ([]))] 1 ⟨rfl, rfl⟩) hd25 (ADs.cons _ rfl (AOps.he [.idx Cluster.cells l 4 0 e2_ he2_] 44 [(0, .rv (.sl 4 (l.map Cluster.cells))), (29, .rv (.sl 4 (l.map Cluster.cells))), (32, .rv (.ptr (Cluster.cells e2_)))] [] 0 ⟨rfl, rfl⟩) hd27 (ADs.nil)))) (fun hd31 => ?_)
     refine AWp.cut (fuel := 7) (m := [false, false, false, true, true, false, false, false, false]) (s := Z 44 [(0, .rv (.sl 4 (l.map Cluster.cells))), (32, .rv (.ptr (Cluster.cells e2_)))] [] 0) (AD.step 0 [1, 5] (ADs.cons _ rfl (AOps.he [.row 26 4 []] 44 [(0, .rv (.sl 4 (l.map Cluster.cells))), (28, .sl 0), (32, .rv (.ptr (Cluster.cells e2_)))] [(0, .row false 26 4 ([]))] 1 ⟨rfl, rfl⟩) hd26 (ADs.cons _ rfl (AOps.he [.run 1] 44 [(0, .rv (.sl 4 (l.map Cluster.cells))), (29, .rv (.sl 4 (l.map Cluster.cells))), (32, .rv (.ptr (Cluster.cells e2_)))] [] 0 ⟨rfl, rfl⟩) hd27 (ADs.cons _ rfl (AOps.he [.run 1] 44 [(0, .rv (.sl 4 (l.map Cluster.cells))), (33, .agg (avs (Cluster.cells e2_)))] [] 0 ⟨rfl, rfl⟩) hd28 (ADs.nil))))) (fun hd32 => ?_)
     refine AWp.cut (fuel := 8) (m := [true, false, false, false, false, false, false, false, false]) (s := Z 44 [(0, .rv (.sl 4 (l.map Cluster.cells))), (28, .sl 0)] [(0, .row false 26 4 ([]))] 1) (AD.step 1 [3] (ADs.cons _ rfl (AOps.he [.run 1] 44 [(0, .rv (.sl 4 (l.map Cluster.cells))), (28, .sl 0), (29, .rv (.sl 4 (l.map Cluster.cells)))] [(0, .row false 26 4 ([]))] 1 ⟨rfl, rfl⟩) hd29 (ADs.cons _ rfl (AOps.he [.run 1] 44 [(0, .rv (.sl 4 (l.map Cluster.cells))), (28, .sl 0), (31, .rv (.sl 4 (l.map Cluster.cells)))] [(0, .row false 26 4 ([]))] 1 ⟨rfl, rfl⟩) hd30 (ADs.nil)))) (fun hd33 => ?_)
     refine AWp.cut (fuel := 8) (m := [false, true, false, false, false, false, false, false, false]) (s := Z 44 [(0, .rv (.sl 4 (l.map Cluster.cells))), (29, .rv (.sl 4 (l.map Cluster.cells)))] [] 0) (AD.step 0 [3] (ADs.cons _ rfl (AOps.he [.row 26 4 []] 44 [(0, .rv (.sl 4 (l.map Cluster.cells))), (28, .sl 0), (29, .rv (.sl 4 (l.map Cluster.cells)))] [(0, .row false 26 4 ([]))] 1 ⟨rfl, rfl⟩) hd29 (ADs.cons _ rfl (AOps.he [.run 1] 44 [(0, .rv (.sl 4 (l.map Cluster.cells))), (29, .rv (.sl 4 (l.map Cluster.cells))), (31, .rv (.sl 4 (l.map Cluster.cells)))] [] 0 ⟨rfl, rfl⟩) hd31 (ADs.nil)))) (fun hd34 => ?_)
     refine AWp.cut (fuel := 8) (m := [false, false, false, true, false, false, false, false, false]) (s := Z 44 [(0, .rv (.sl 4 (l.map Cluster.cells))), (31, .rv (.sl 4 (l.map Cluster.cells)))] [] 0) (AD.step 0 [1, 4] (ADs.cons _ rfl (AOps.he [.row 26 4 []] 44 [(0, .rv (.sl 4 (l.map Cluster.cells))), (28, .sl 0), (31, .rv (.sl 4 (l.map Cluster.cells)))] [(0, .row false 26 4 ([]))] 1 ⟨rfl, rfl⟩) hd30 (ADs.cons _ rfl (AOps.he [.run 1] 44 [(0, .rv (.sl 4 (l.map Cluster.cells))), (29, .rv (.sl 4 (l.map Cluster.cells))), (31, .rv (.sl 4 (l.map Cluster.cells)))] [] 0 ⟨rfl, rfl⟩) hd31 (ADs.cons _ rfl (AOps.he [.idx Cluster.cells l 4 0 e2_ he2_] 44 [(0, .rv (.sl 4 (l.map Cluster.cells))), (32, .rv (.ptr (Cluster.cells e2_)))] [] 0 ⟨rfl, rfl⟩) hd32 (ADs.nil))))) (fun hd35 => ?_)
     refine AWp.cut (fuel := 9) (m := [false, false, false, false, false, false, false, false, false]) (s := Z 44 [(0, .rv (.sl 4 (l.map Cluster.cells)))] [] 0) (AD.step 0 [1, 3] (ADs.cons _ rfl (AOps.he [.row 26 4 []] 44 [(0, .rv (.sl 4 (l.map Cluster.cells))), (28, .sl 0)] [(0, .row false 26 4 ([]))] 1 ⟨rfl, rfl⟩) hd33 (ADs.cons _ rfl (AOps.he [.run 1] 44 [(0, .rv (.sl 4 (l.map Cluster.cells))), (29, .rv (.sl 4 (l.map Cluster.cells)))] [] 0 ⟨rfl, rfl⟩) hd34 (ADs.cons _ rfl (AOps.he [.run 1] 44 [(0, .rv (.sl 4 (l.map Cluster.cells))), (31, .rv (.sl 4 (l.map Cluster.cells)))] [] 0 ⟨rfl, rfl⟩) hd35 (ADs.nil))))) (fun hd36 => ?_)
     exact AWp.drawnA 9 leZ hd36
    ·
     have h8' := of_decide_eq_false h8
     refine AWp.skip ?_
     refine AWp.join (Z 44 [(2, vb (allM l == rallM l))] [] 0) ?_ ?_
     ·
      refine AWp.region ?_
      refine AOps.hg [.run 1, .call 25 [.rv (.sl 4 (l.map Cluster.cells))] (vi (allM l)) [] 0 (allM_ok l (by first | exact lists_fit (by assumption) | exact lists_fit1 (by assumption) (by assumption) | exact lists_fit (by assumption) _ (List.mem_of_getElem? (by assumption)))), .run 1, .call 26 [.rv (.sl 4 (l.map Cluster.cells))] (vi (rallM l)) [] 0 (rallM_ok l), .run 2] ((allM l == rallM l)) 44 (fun b_ => [(41, vb b_)]) [] 0 (fun hg37 => ?_) (fun hg37 => ?_)
      ·
       refine AOps.he [.call 12 [] (vb true) [] 0 (awake_ok), .run 2] 44 [(2, vb true)] [] 0 ?_
       exact leZ (by rw [hg37]; first | done | kernel_rfl)
      ·
       refine AOps.he [.run 3] 44 [(2, vb false)] [] 0 ?_
       exact leZ (by rw [hg37]; first | done | kernel_rfl)
     ·
      refine AWp.ret ?_
      exact leafR (r := vb (allM l == rallM l)) (by unfold lListsM; (try rw [h2]); (try rw [hL1_]); (try rw [h6]); (try rw [h8]); first | done | kernel_rfl)
end Go.Proofs.YtelohjccoimnaaaDoor
