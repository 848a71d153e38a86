/- Effects: the contracts. -/
import Derived.Test.YtnnlaccdendkpaaVA4
import Derived.Test.YtnnlaccdendkpaaVMs
namespace Go.Proofs.Ytnnlaccdendkpaa
open Go Go.Av Go.Hh Go.Proofs
set_option maxRecDepth 100000
set_option maxHeartbeats 4000000
theorem fit_take {c : Cluster} (h : FitA c) (_ : Nat) : FitA c := h
def alikeM (a b : Attr) : Bool :=
 ((a.kind == b.kind) && sEqualM a.enum b.enum)
theorem alikeM_ok (a b : Attr) :
 ACalls Try.prog G_ 102 [.agg (avs (Attr.cells a)), .agg (avs (Attr.cells b))] [] 0 (fun r τ => r = vb (alikeM a b) ∧ τ = []) := by
 refine ACalls.body Try.func102 rfl 17 [(0, .agg (avs (Attr.cells a))), (1, .agg (avs (Attr.cells b)))] ?_
 refine AWp.hz [.run 3] 17 [(2, .ptr 0 0), (3, .ptr 1 0)] [(1, .box 48 (avs (Attr.cells b))), (0, .box 48 (avs (Attr.cells a)))] 2 ?_
 refine AWp.join (Z 17 [(4, vb ((a.kind == b.kind) && sEqualM a.enum b.enum))] [] 2) ?_ ?_
 ·
  refine AWp.region ?_
  refine AOps.hg [.run 6] ((a.kind == b.kind)) 17 (fun b_ => [(2, .ptr 0 0), (3, .ptr 1 0), (10, vb b_)]) [(1, .box 48 (avs (Attr.cells b))), (0, .box 48 (avs (Attr.cells a)))] 2 (fun hg1 => ?_) (fun hg1 => ?_)
  ·
   refine AOps.he [.run 4, .call 103 [.rv (.sl 1 (a.enum.map strC)), .rv (.sl 1 (b.enum.map strC))] (vb (sEqualM a.enum b.enum)) [] 0 (sEqualM_ok a.enum b.enum), .run 2] 17 [(4, vb (sEqualM a.enum b.enum))] [] 2 ?_
   exact leZ (by rw [hg1]; try kernel_rfl)
  ·
   refine AOps.he [.run 7] 17 [(4, vb false)] [] 2 ?_
   exact leZ (by rw [hg1]; try kernel_rfl)
 ·
  refine AWp.ret ?_
  exact leafR (r := vb ((a.kind == b.kind) && sEqualM a.enum b.enum)) (by unfold alikeM; try kernel_rfl)
def suitsM (x : Effect) (a b : Attr) : Bool :=
 (bif (x.kind == 1) then ((a.kind != 4) && (fitsM a (⟨a.kind, x.n, ⟨#[]⟩⟩ : Val) == 0)) else (bif (x.kind == 2) then alikeM a b else (bif (x.kind == 3) then (a.kind == 2) else (a.kind == 1))))
abbrev suitsM_c1 (a : Attr) : Nat × AObj := (1, .box 48 (avs (Attr.cells a)))
theorem suitsM_ok (x : Effect) (a b : Attr) :
 ACalls Try.prog G_ 99 [.agg (avs (Effect.cells x)), .agg (avs (Attr.cells a)), .agg (avs (Attr.cells b))] [] 0 (fun r τ => r = vb (suitsM x a b) ∧ τ = []) := by
 refine ACalls.body Try.func99 rfl 37 [(0, .agg (avs (Effect.cells x))), (1, .agg (avs (Attr.cells a))), (2, .agg (avs (Attr.cells b)))] ?_
 refine AWp.hz [.run 4] 37 [(3, .ptr 0 0), (4, .ptr 1 0), (5, .ptr 2 0)] [(2, .box 48 (avs (Attr.cells b))), (suitsM_c1 a), (0, .box 86 (avs (Effect.cells x)))] 3 ?_
 refine AWp.seq ?_
 refine AWp.hz [.run 2] 37 [(3, .ptr 0 0), (4, .ptr 1 0), (5, .ptr 2 0), (8, vi x.kind)] [(2, .box 48 (avs (Attr.cells b))), (suitsM_c1 a), (0, .box 86 (avs (Effect.cells x)))] 3 ?_
 refine AWp.block ?_
 refine AWp.hz [.run 2] 37 [(3, .ptr 0 0), (4, .ptr 1 0), (5, .ptr 2 0), (8, vi x.kind), (9, vb (x.kind == 1))] [(2, .box 48 (avs (Attr.cells b))), (suitsM_c1 a), (0, .box 86 (avs (Effect.cells x)))] 3 ?_
 refine AWp.cnd ((x.kind == 1)) (fun h1 => ?_) (fun h1 => ?_)
 ·
  refine AWp.join (Z 37 [(6, vb ((a.kind != 4) && (fitsM a (⟨a.kind, x.n, ⟨#[]⟩⟩ : Val) == 0)))] [] 3) ?_ ?_
  ·
   refine AWp.region ?_
   refine AOps.hg [.run 4] ((a.kind != 4)) 37 (fun b_ => [(3, .ptr 0 0), (4, .ptr 1 0), (14, vb b_)]) [(suitsM_c1 a), (0, .box 86 (avs (Effect.cells x)))] 3 (fun hg2 => ?_) (fun hg2 => ?_)
   ·
    refine AOps.he [.run 6, .call 101 [.agg (avs (Attr.cells a)), .agg [vi a.kind, vi x.n, vs (⟨#[]⟩)]] (vi (fitsM a (⟨a.kind, x.n, ⟨#[]⟩⟩ : Val))) [] 0 (fitsM_ok a (⟨a.kind, x.n, ⟨#[]⟩⟩ : Val)), .run 3] 37 [(6, vb (fitsM a (⟨a.kind, x.n, ⟨#[]⟩⟩ : Val) == 0))] [] 3 ?_
    exact leZ (by rw [hg2]; try kernel_rfl)
   ·
    refine AOps.he [.run 10] 37 [(6, vb false)] [] 3 ?_
    exact leZ (by rw [hg2]; try kernel_rfl)
  ·
   refine AWp.ret ?_
   exact leafR (r := vb ((a.kind != 4) && (fitsM a (⟨a.kind, x.n, ⟨#[]⟩⟩ : Val) == 0))) (by unfold suitsM; (try rw [h1]); try kernel_rfl)
 ·
  refine AWp.hz [.run 2] 37 [(4, .ptr 1 0), (5, .ptr 2 0), (8, vi x.kind), (24, vb (x.kind == 2))] [(2, .box 48 (avs (Attr.cells b))), (suitsM_c1 a)] 3 ?_
  refine AWp.cnd ((x.kind == 2)) (fun h3 => ?_) (fun h3 => ?_)
  ·
   refine AWp.hz [.run 2, .call 102 [.agg (avs (Attr.cells a)), .agg (avs (Attr.cells b))] (vb (alikeM a b)) [] 0 (alikeM_ok a b), .run 1] 37 [(6, vb (alikeM a b))] [] 3 ?_
   refine AWp.ret ?_
   exact leafR (r := vb (alikeM a b)) (by unfold suitsM; (try rw [h1]); (try rw [h3]); try kernel_rfl)
  ·
   refine AWp.hz [.run 2] 37 [(4, .ptr 1 0), (29, vb (x.kind == 3))] [(suitsM_c1 a)] 3 ?_
   refine AWp.cnd ((x.kind == 3)) (fun h4 => ?_) (fun h4 => ?_)
   ·
    refine AWp.hz [.run 4] 37 [(6, vb (a.kind == 2))] [] 3 ?_
    refine AWp.ret ?_
    exact leafR (r := vb (a.kind == 2)) (by unfold suitsM; (try rw [h1]); (try rw [h3]); (try rw [h4]); try kernel_rfl)
   ·
    refine AWp.skip ?_
    refine AWp.hz [.run 4] 37 [(6, vb (a.kind == 1))] [] 3 ?_
    refine AWp.ret ?_
    exact leafR (r := vb (a.kind == 1)) (by unfold suitsM; (try rw [h1]); (try rw [h3]); (try rw [h4]); try kernel_rfl)
def effectM (c : Cluster) (b : Attr) (x : Effect) : Int :=
 (bif (decide (x.kind < 1) || decide (x.kind > 4)) then 7 else (bif !((attrM c x.attr).2) then 8 else (bif !(((attrM c x.attr).1).writable) then 24 else (bif !(suitsM x ((attrM c x.attr).1) b) then 11 else (bif ((x.kind == 3) && (satM x.n != x.n)) then 2 else (bif (((x.kind == 2) || (x.kind == 4)) && (x.n != 0)) then 4 else 0))))))
abbrev effectM_c1 (x : Effect) : Nat × AObj := (2, .box 86 (avs (Effect.cells x)))
abbrev effectM_c2 (b : Attr) : Nat × AObj := (1, .box 48 (avs (Attr.cells b)))
theorem effectM_ok (c : Cluster) (b : Attr) (x : Effect) (hw : FitA c) :
 ACalls Try.prog G_ 98 [.agg (avs (Cluster.cells c)), .agg (avs (Attr.cells b)), .agg (avs (Effect.cells x))] [] 0 (fun r τ => r = vi (effectM c b x) ∧ τ = []) := by
 refine ACalls.body Try.func98 rfl 58 [(0, .agg (avs (Cluster.cells c))), (1, .agg (avs (Attr.cells b))), (2, .agg (avs (Effect.cells x)))] ?_
 refine AWp.hz [.run 4] 58 [(3, .ptr 0 0), (4, .ptr 1 0), (5, .ptr 2 0)] [(effectM_c1 x), (effectM_c2 b), (0, .box 46 (avs (Cluster.cells c)))] 3 ?_
 refine AWp.seq ?_
 refine AWp.join (Z 58 [(3, .ptr 0 0), (4, .ptr 1 0), (5, .ptr 2 0), (16, vb (decide (x.kind < 1) || decide (x.kind > 4)))] [(2, .box 86 (avs (Effect.cells x))), (1, .box 48 (avs (Attr.cells b))), (0, .box 46 (avs (Cluster.cells c)))] 3) ?_ ?_
 ·
  refine AWp.region ?_
  refine AOps.hg [.run 4] (decide (x.kind < 1)) 58 (fun b_ => [(3, .ptr 0 0), (4, .ptr 1 0), (5, .ptr 2 0), (12, vb b_)]) [(effectM_c1 x), (effectM_c2 b), (0, .box 46 (avs (Cluster.cells c)))] 3 (fun hg1 => ?_) (fun hg1 => ?_)
  ·
   have hg1' := of_decide_eq_true hg1
   refine AOps.he [.run 4] 58 [(3, .ptr 0 0), (4, .ptr 1 0), (5, .ptr 2 0), (16, vb true)] [(effectM_c1 x), (effectM_c2 b), (0, .box 46 (avs (Cluster.cells c)))] 3 ?_
   exact leZ (by rw [hg1]; try kernel_rfl)
  ·
   have hg1' := of_decide_eq_false hg1
   refine AOps.he [.run 4] 58 [(3, .ptr 0 0), (4, .ptr 1 0), (5, .ptr 2 0), (16, vb (decide (x.kind > 4)))] [(effectM_c1 x), (effectM_c2 b), (0, .box 46 (avs (Cluster.cells c)))] 3 ?_
   exact leZ (by rw [hg1]; try kernel_rfl)
 ·
  refine AWp.cnd ((decide (x.kind < 1) || decide (x.kind > 4))) (fun h2 => ?_) (fun h2 => ?_)
  ·
   refine AWp.hz [.run 1] 58 [(6, vi 7)] [] 3 ?_
   refine AWp.ret ?_
   exact leafR (r := vi 7) (by unfold effectM; (try rw [h2]); try kernel_rfl)
  ·
   have h2l := or_fl h2
   have h2l' := of_decide_eq_false h2l
   have h2r := or_fr h2
   have h2r' := of_decide_eq_false h2r
   refine AWp.skip ?_
   refine AWp.hz [.run 3, .call 85 [.agg (avs (Cluster.cells c)), vs x.attr] (.tuple [.agg (avs (Attr.cells ((attrM c x.attr).1))), vb ((attrM c x.attr).2)]) [] 0 (attrM_ok c x.attr (by first | assumption | exact std_fit _ (List.mem_of_getElem? (by assumption)) | exact fit_s1 (by assumption) | exact std_fit | exact fun c hc => std_fit c (List.mem_of_mem_take (List.mem_of_mem_drop hc)) | exact Nat.le_trans (apply_len _ _ _ _) (by omega) | exact parts_fit (by assumption) | exact parts_fit (by assumption) _ (List.mem_of_getElem? (by assumption)) | (simp; done) | exact ⟨by simp, by simp⟩ | exact hw _ (List.mem_of_getElem? (by assumption)) | exact hw.1 _ (List.mem_of_getElem? (by assumption)) | exact (hw.2 _ (List.mem_of_getElem? (by assumption))).1 | exact (hw.2 _ (List.mem_of_getElem? (by assumption))).2 | omega | exact fit_take hw _)), .run 6] 58 [(4, .ptr 1 0), (5, .ptr 2 0), (7, .ptr 3 0), (8, vb ((attrM c x.attr).2))] [(3, .box 48 (avs (Attr.cells ((attrM c x.attr).1)))), (effectM_c1 x), (effectM_c2 b)] 4 ?_
   refine AWp.seq ?_
   refine AWp.hz [.run 2] 58 [(4, .ptr 1 0), (5, .ptr 2 0), (7, .ptr 3 0), (25, vb (!((attrM c x.attr).2)))] [(3, .box 48 (avs (Attr.cells ((attrM c x.attr).1)))), (effectM_c1 x), (effectM_c2 b)] 4 ?_
   refine AWp.cnd (!((attrM c x.attr).2)) (fun h3 => ?_) (fun h3 => ?_)
   ·
    refine AWp.hz [.run 1] 58 [(6, vi 8)] [] 4 ?_
    refine AWp.ret ?_
    exact leafR (r := vi 8) (by unfold effectM; (try rw [h2]); (try rw [h3]); try kernel_rfl)
   ·
    refine AWp.skip ?_
    refine AWp.seq ?_
    refine AWp.hz [.run 3] 58 [(4, .ptr 1 0), (5, .ptr 2 0), (7, .ptr 3 0), (28, vb (!(((attrM c x.attr).1).writable)))] [(3, .box 48 (avs (Attr.cells ((attrM c x.attr).1)))), (effectM_c1 x), (effectM_c2 b)] 4 ?_
    refine AWp.cnd (!(((attrM c x.attr).1).writable)) (fun h4 => ?_) (fun h4 => ?_)
    ·
     refine AWp.hz [.run 1] 58 [(6, vi 24)] [] 4 ?_
     refine AWp.ret ?_
     exact leafR (r := vi 24) (by unfold effectM; (try rw [h2]); (try rw [h3]); (try rw [h4]); try kernel_rfl)
    ·
     refine AWp.skip ?_
     refine AWp.seq ?_
     refine AWp.hz [.run 3, .call 99 [.agg (avs (Effect.cells x)), .agg (avs (Attr.cells ((attrM c x.attr).1))), .agg (avs (Attr.cells b))] (vb (suitsM x ((attrM c x.attr).1) b)) [] 0 (suitsM_ok x ((attrM c x.attr).1) b), .run 1] 58 [(5, .ptr 2 0), (33, vb (!(suitsM x ((attrM c x.attr).1) b)))] [(effectM_c1 x)] 4 ?_
     refine AWp.cnd (!(suitsM x ((attrM c x.attr).1) b)) (fun h5 => ?_) (fun h5 => ?_)
     ·
      refine AWp.hz [.run 1] 58 [(6, vi 11)] [] 4 ?_
      refine AWp.ret ?_
      exact leafR (r := vi 11) (by unfold effectM; (try rw [h2]); (try rw [h3]); (try rw [h4]); (try rw [h5]); try kernel_rfl)
     ·
      refine AWp.skip ?_
      refine AWp.seq ?_
      refine AWp.split ((x.kind == 3)) (fun h6 => ?_) (fun h6 => ?_)
      ·
       refine AWp.dz [.ptr 2 0, vi x.kind, vb true, vb true, .ptr 2 2, vi x.n, vi (satM x.n), .ptr 2 2, vi x.n, vb (satM x.n != x.n), vb (satM x.n != x.n)] 58 [(5, .ptr 2 0), (44, vb (satM x.n != x.n))] [(effectM_c1 x)] 4 ?_ ?_
       ·
        refine DSteps.cons (DStep.va) ?_
        refine DSteps.cons (DStep.va) ?_
        refine DSteps.cons ((DStep.val (v := vb (x.kind == 3)) (by kernel_rfl) (by kernel_rfl)).cast (congrArg vb h6)) ?_
        refine DSteps.cons (DStep.va) ?_
        refine DSteps.cons (DStep.va) ?_
        refine DSteps.cons (DStep.va) ?_
        refine DSteps.cons (DStep.call rfl (by kernel_rfl) (by kernel_rfl) (by kernel_rfl) (args := [vi x.n]) (by kernel_rfl) (by kernel_rfl) (satM_ok x.n) (by kernel_rfl) (Nat.le_of_ble_eq_true (by kernel_rfl))) ?_
        refine DSteps.cons (DStep.va) ?_
        refine DSteps.cons (DStep.va) ?_
        refine DSteps.cons (DStep.va) ?_
        refine DSteps.cons (DStep.va) ?_
        exact DSteps.nl
       refine AWp.cnd ((satM x.n != x.n)) (fun h7 => ?_) (fun h7 => ?_)
       ·
        refine AWp.hz [.run 1] 58 [(6, vi 2)] [] 4 ?_
        refine AWp.ret ?_
        exact leafR (r := vi 2) (by unfold effectM; (try rw [h2]); (try rw [h3]); (try rw [h4]); (try rw [h5]); (try rw [h6]); (try rw [h7]); try kernel_rfl)
       ·
        refine AWp.skip ?_
        refine AWp.seq ?_
        refine AWp.join (Z 58 [(57, vb (((x.kind == 2) || (x.kind == 4)) && (x.n != 0)))] [] 4) ?_ ?_
        ·
         refine AWp.region ?_
         refine AOps.hg [.run 4] ((x.kind == 2)) 58 (fun b_ => [(5, .ptr 2 0), (48, vb b_)]) [(effectM_c1 x)] 4 (fun hg8 => ?_) (fun hg8 => ?_)
         ·
          refine AOps.he [.run 9] 58 [(57, vb (x.n != 0))] [] 4 ?_
          exact leZ (by rw [hg8]; try kernel_rfl)
         ·
          refine AOps.hg [.run 5] ((x.kind == 4)) 58 (fun b_ => [(5, .ptr 2 0), (53, vb b_)]) [(effectM_c1 x)] 4 (fun hg9 => ?_) (fun hg9 => ?_)
          ·
           refine AOps.he [.run 4] 58 [(57, vb (x.n != 0))] [] 4 ?_
           exact leZ (by rw [hg8, hg9]; try kernel_rfl)
          ·
           refine AOps.he [.run 4] 58 [(57, vb false)] [] 4 ?_
           exact leZ (by rw [hg8, hg9]; try kernel_rfl)
        ·
         refine AWp.cnd ((((x.kind == 2) || (x.kind == 4)) && (x.n != 0))) (fun h10 => ?_) (fun h10 => ?_)
         ·
          have h10l := and_tl h10
          have h10r := and_tr h10
          refine AWp.hz [.run 1] 58 [(6, vi 4)] [] 4 ?_
          refine AWp.ret ?_
          exact leafR (r := vi 4) (by unfold effectM; (try rw [h2]); (try rw [h3]); (try rw [h4]); (try rw [h5]); (try rw [h6]); (try rw [h7]); (try rw [h10]); try kernel_rfl)
         ·
          refine AWp.skip ?_
          refine AWp.hz [.run 1] 58 [(6, vi 0)] [] 4 ?_
          refine AWp.ret ?_
          exact leafR (r := vi 0) (by unfold effectM; (try rw [h2]); (try rw [h3]); (try rw [h4]); (try rw [h5]); (try rw [h6]); (try rw [h7]); (try rw [h10]); try kernel_rfl)
      ·
       refine AWp.dz [.ptr 2 0, vi x.kind, vb false, vb false, .tuple [], .tuple [], .tuple [], .tuple [], .tuple [], .tuple [], vb false] 58 [(5, .ptr 2 0), (44, vb false)] [(effectM_c1 x)] 4 ?_ ?_
       ·
        refine DSteps.cons (DStep.va) ?_
        refine DSteps.cons (DStep.va) ?_
        refine DSteps.cons ((DStep.val (v := vb (x.kind == 3)) (by kernel_rfl) (by kernel_rfl)).cast (congrArg vb h6)) ?_
        refine DSteps.cons (DStep.va) ?_
        refine DSteps.cons (DStep.skip (by kernel_rfl)) ?_
        refine DSteps.cons (DStep.skip (by kernel_rfl)) ?_
        refine DSteps.cons (DStep.skip (by kernel_rfl)) ?_
        refine DSteps.cons (DStep.skip (by kernel_rfl)) ?_
        refine DSteps.cons (DStep.skip (by kernel_rfl)) ?_
        refine DSteps.cons (DStep.skip (by kernel_rfl)) ?_
        refine DSteps.cons (DStep.va) ?_
        exact DSteps.nl
       refine AWp.cndF ?_
       refine AWp.skip ?_
       refine AWp.seq ?_
       refine AWp.join (Z 58 [(57, vb (((x.kind == 2) || (x.kind == 4)) && (x.n != 0)))] [] 4) ?_ ?_
       ·
        refine AWp.region ?_
        refine AOps.hg [.run 4] ((x.kind == 2)) 58 (fun b_ => [(5, .ptr 2 0), (48, vb b_)]) [(effectM_c1 x)] 4 (fun hg11 => ?_) (fun hg11 => ?_)
        ·
         refine AOps.he [.run 9] 58 [(57, vb (x.n != 0))] [] 4 ?_
         exact leZ (by rw [hg11]; try kernel_rfl)
        ·
         refine AOps.hg [.run 5] ((x.kind == 4)) 58 (fun b_ => [(5, .ptr 2 0), (53, vb b_)]) [(effectM_c1 x)] 4 (fun hg12 => ?_) (fun hg12 => ?_)
         ·
          refine AOps.he [.run 4] 58 [(57, vb (x.n != 0))] [] 4 ?_
          exact leZ (by rw [hg11, hg12]; try kernel_rfl)
         ·
          refine AOps.he [.run 4] 58 [(57, vb false)] [] 4 ?_
          exact leZ (by rw [hg11, hg12]; try kernel_rfl)
       ·
        refine AWp.cnd ((((x.kind == 2) || (x.kind == 4)) && (x.n != 0))) (fun h13 => ?_) (fun h13 => ?_)
        ·
         have h13l := and_tl h13
         have h13r := and_tr h13
         refine AWp.hz [.run 1] 58 [(6, vi 4)] [] 4 ?_
         refine AWp.ret ?_
         exact leafR (r := vi 4) (by unfold effectM; (try rw [h2]); (try rw [h3]); (try rw [h4]); (try rw [h5]); (try rw [h6]); (try rw [h13]); try kernel_rfl)
        ·
         refine AWp.skip ?_
         refine AWp.hz [.run 1] 58 [(6, vi 0)] [] 4 ?_
         refine AWp.ret ?_
         exact leafR (r := vi 0) (by unfold effectM; (try rw [h2]); (try rw [h3]); (try rw [h4]); (try rw [h5]); (try rw [h6]); (try rw [h13]); try kernel_rfl)
end Go.Proofs.Ytnnlaccdendkpaa
