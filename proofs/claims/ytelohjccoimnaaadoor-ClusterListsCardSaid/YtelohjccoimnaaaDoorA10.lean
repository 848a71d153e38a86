/- The examples of the chapter: the contract. -/
import Derived.Test.YtelohjccoimnaaaDoorA8
import Derived.Test.YtelohjccoimnaaaDoorA9
namespace Go.Proofs.YtelohjccoimnaaaDoor
open Go Go.Av Go.Hh Go.Proofs
set_option maxRecDepth 100000
set_option maxHeartbeats 4000000
theorem std_fit : ∀ c ∈ stdM, Fit c := by
  intro c hc
  have h : (stdM.all fun c => (c.attrs.all fun a => Nat.beq a.enum.length 0) && (c.commands.all fun d => Nat.beq d.param.enum.length 0 && Nat.ble d.effects.length 3)) = true := by kernel_rfl
  have h1 := List.all_eq_true.1 h c hc
  simp only [Bool.and_eq_true, List.all_eq_true] at h1
  exact ⟨fun a ha => by have := Nat.eq_of_beq_eq_true (h1.1 a ha); omega, fun d hd => ⟨by have := Nat.eq_of_beq_eq_true (h1.2 d hd).1; omega, by have := Nat.le_of_ble_eq_true (h1.2 d hd).2; omega⟩⟩
def awakeM (l : List Cluster) : Bool :=
  (bif (((l.length : Nat) : Int) != 8) then false else (match (l)[0]? with | some e1_ => (bif !beqS e1_.name (⟨#[111, 110, 111, 102, 102]⟩) then false else (match (l)[1]? with | some e2_ => (bif !beqS e2_.name (⟨#[108, 101, 118, 101, 108]⟩) then false else (match (l)[2]? with | some e3_ => (bif (!beqS e3_.name (⟨#[108, 111, 99, 107]⟩) || ((((applyM e1_ (⟨#[116, 111, 103, 103, 108, 101]⟩) (⟨0, 0, ⟨#[]⟩⟩ : Val) ([(lflagM 0)])).2) != 0) || (((((applyM e1_ (⟨#[116, 111, 103, 103, 108, 101]⟩) (⟨0, 0, ⟨#[]⟩⟩ : Val) ([(lflagM 0)])).1).length : Nat) : Int) != 1))) then false else (match ((applyM e1_ (⟨#[116, 111, 103, 103, 108, 101]⟩) (⟨0, 0, ⟨#[]⟩⟩ : Val) ([(lflagM 0)])).1)[0]? with | some e4_ => (bif (!((e4_.kind == (lflagM 1).kind) && ((e4_.n == (lflagM 1).n) && (beqS e4_.s ((lflagM 1).s) && true))) || ((((applyM e2_ (⟨#[115, 116, 101, 112]⟩) (⟨0, 0, ⟨#[]⟩⟩ : Val) ([(lnumberM 95)])).2) != 0) || (((((applyM e2_ (⟨#[115, 116, 101, 112]⟩) (⟨0, 0, ⟨#[]⟩⟩ : Val) ([(lnumberM 95)])).1).length : Nat) : Int) != 1))) then false else (match ((applyM e2_ (⟨#[115, 116, 101, 112]⟩) (⟨0, 0, ⟨#[]⟩⟩ : Val) ([(lnumberM 95)])).1)[0]? with | some e5_ => (bif (!((e5_.kind == (lnumberM 100).kind) && ((e5_.n == (lnumberM 100).n) && (beqS e5_.s ((lnumberM 100).s) && true))) || ((((applyM e2_ (⟨#[109, 111, 118, 101]⟩) (lnumberM 101) ([(lnumberM 5)])).2) != 2) || (((applyM e3_ (⟨#[106, 97, 109]⟩) (⟨0, 0, ⟨#[]⟩⟩ : Val) ([(lflagM 0)])).2) != 8))) then false else ((checkM (⟨⟨#[79, 110]⟩, [], [], []⟩ : Cluster) == 10) && (checkM e3_ == 0))) | none => false)) | none => false)) | none => false)) | none => false)) | none => false))
theorem awakeM_ok (l : List Cluster) (hs : ACalls Tryd.prog G_ 27 [] [] 0 (fun r τ => r = .rv (.sl 4 (l.map Cluster.cells)) ∧ τ = [])) (hw : ∀ c ∈ l, Fit c) :
 ACalls Tryd.prog G_ 12 [] [] 0 (fun r τ => r = vb (awakeM l) ∧ τ = []) := by
 refine ACalls.body Tryd.func12 rfl 123 [] ?_
 refine AWp.hz [.run 1] 123 [] [] 0 ?_
 refine AWp.hz [.call 27 [] (.rv (.sl 4 (l.map Cluster.cells))) [] 0 (hs), .run 1] 123 [(1, .rv (.sl 4 (l.map Cluster.cells)))] [] 0 ?_
 refine AWp.seq ?_
 refine AWp.rg ?_
 refine AOps.hzl [.run 1, .len Cluster.cells l 4, .run 2] 123 [(1, .rv (.sl 4 (l.map Cluster.cells))), (14, vb (((l.length : Nat) : Int) != 8))] [] 0 (fun hl => ?_)
 obtain ⟨hn1, -⟩ := hl
 refine AOps.hg [] ((((l.length : Nat) : Int) != 8)) 123 (fun b_ => [(1, .rv (.sl 4 (l.map Cluster.cells))), (14, vb b_)]) [] 0 (fun hg2 => ?_) (fun hg2 => ?_)
 ·
  have hg2' := bne_t hg2
  refine AOps.he [.run 20] 123 [(1, .rv (.sl 4 (l.map Cluster.cells))), (34, vb true)] [] 0 ?_
  refine AWp.cndT ?_
  refine AWp.hz [.run 1] 123 [(0, vb false)] [] 0 ?_
  refine AWp.ret ?_
  exact leafR (r := vb false) (by unfold awakeM; (try rw [hg2]); first | done | kernel_rfl)
 ·
  have hg2' := bne_f hg2
  obtain ⟨e1_, he1_⟩ : ∃ e_, (l)[0]? = some e_ := ⟨_, List.getElem?_eq_getElem (by omega)⟩
  refine AOps.hg [.run 1, .idx Cluster.cells l 4 0 e1_ he1_, .run 5] (!beqS e1_.name (⟨#[111, 110, 111, 102, 102]⟩)) 123 (fun b_ => [(1, .rv (.sl 4 (l.map Cluster.cells))), (21, vb b_)]) [] 0 (fun hg3 => ?_) (fun hg3 => ?_)
  ·
   refine AOps.he [.run 13] 123 [(1, .rv (.sl 4 (l.map Cluster.cells))), (34, vb true)] [] 0 ?_
   refine AWp.cndT ?_
   refine AWp.hz [.run 1] 123 [(0, vb false)] [] 0 ?_
   refine AWp.ret ?_
   exact leafR (r := vb false) (by unfold awakeM; (try simp only [he1_]); (try rw [hg2]); (try rw [hg3]); first | done | kernel_rfl)
  ·
   obtain ⟨e2_, he2_⟩ : ∃ e_, (l)[1]? = some e_ := ⟨_, List.getElem?_eq_getElem (by omega)⟩
   refine AOps.hg [.run 1, .idx Cluster.cells l 4 1 e2_ he2_, .run 5] (!beqS e2_.name (⟨#[108, 101, 118, 101, 108]⟩)) 123 (fun b_ => [(1, .rv (.sl 4 (l.map Cluster.cells))), (28, vb b_)]) [] 0 (fun hg4 => ?_) (fun hg4 => ?_)
   ·
    refine AOps.he [.run 6] 123 [(1, .rv (.sl 4 (l.map Cluster.cells))), (34, vb true)] [] 0 ?_
    refine AWp.cndT ?_
    refine AWp.hz [.run 1] 123 [(0, vb false)] [] 0 ?_
    refine AWp.ret ?_
    exact leafR (r := vb false) (by unfold awakeM; (try simp only [he1_]); (try simp only [he2_]); (try rw [hg2]); (try rw [hg3]); (try rw [hg4]); first | done | kernel_rfl)
   ·
    obtain ⟨e3_, he3_⟩ : ∃ e_, (l)[2]? = some e_ := ⟨_, List.getElem?_eq_getElem (by omega)⟩
    refine AOps.he [.run 1, .idx Cluster.cells l 4 2 e3_ he3_, .run 4] 123 [(1, .rv (.sl 4 (l.map Cluster.cells))), (34, vb (!beqS e3_.name (⟨#[108, 111, 99, 107]⟩)))] [] 0 ?_
    refine AWp.cnd (!beqS e3_.name (⟨#[108, 111, 99, 107]⟩)) (fun h5 => ?_) (fun h5 => ?_)
    ·
     refine AWp.hz [.run 1] 123 [(0, vb false)] [] 0 ?_
     refine AWp.ret ?_
     exact leafR (r := vb false) (by unfold awakeM; (try simp only [he1_]); (try simp only [he2_]); (try simp only [he3_]); (try rw [hg2]); (try rw [hg3]); (try rw [hg4]); (try rw [h5]); first | done | kernel_rfl)
    ·
     refine AWp.skip ?_
     refine AWp.dz [.rv (.sl 4 (l.map Cluster.cells)), .rv (.ptr (Cluster.cells e1_)), .agg (avs (Cluster.cells e1_)), .agg [vi 0, vi 0, vs (⟨#[]⟩)], .agg (avs (Val.cells (lflagM 0))), .rv (.sl 3 (([(lflagM 0)]).map Val.cells)), .tuple [.rv (.sl 3 (((applyM e1_ (⟨#[116, 111, 103, 103, 108, 101]⟩) (⟨0, 0, ⟨#[]⟩⟩ : Val) ([(lflagM 0)])).1).map Val.cells)), vi ((applyM e1_ (⟨#[116, 111, 103, 103, 108, 101]⟩) (⟨0, 0, ⟨#[]⟩⟩ : Val) ([(lflagM 0)])).2)], .tuple [.rv (.sl 3 (((applyM e1_ (⟨#[116, 111, 103, 103, 108, 101]⟩) (⟨0, 0, ⟨#[]⟩⟩ : Val) ([(lflagM 0)])).1).map Val.cells)), vi ((applyM e1_ (⟨#[116, 111, 103, 103, 108, 101]⟩) (⟨0, 0, ⟨#[]⟩⟩ : Val) ([(lflagM 0)])).2)], .rv (.sl 3 (((applyM e1_ (⟨#[116, 111, 103, 103, 108, 101]⟩) (⟨0, 0, ⟨#[]⟩⟩ : Val) ([(lflagM 0)])).1).map Val.cells)), vi ((applyM e1_ (⟨#[116, 111, 103, 103, 108, 101]⟩) (⟨0, 0, ⟨#[]⟩⟩ : Val) ([(lflagM 0)])).2), .rv (.sl 3 (((applyM e1_ (⟨#[116, 111, 103, 103, 108, 101]⟩) (⟨0, 0, ⟨#[]⟩⟩ : Val) ([(lflagM 0)])).1).map Val.cells)), vi ((applyM e1_ (⟨#[116, 111, 103, 103, 108, 101]⟩) (⟨0, 0, ⟨#[]⟩⟩ : Val) ([(lflagM 0)])).2)] 123 [(1, .rv (.sl 4 (l.map Cluster.cells))), (2, .rv (.sl 3 (((applyM e1_ (⟨#[116, 111, 103, 103, 108, 101]⟩) (⟨0, 0, ⟨#[]⟩⟩ : Val) ([(lflagM 0)])).1).map Val.cells))), (3, vi ((applyM e1_ (⟨#[116, 111, 103, 103, 108, 101]⟩) (⟨0, 0, ⟨#[]⟩⟩ : Val) ([(lflagM 0)])).2))] [] 0 ?_ ?_
     ·
      refine DSteps.cons (DStep.va) ?_
      refine DSteps.cons (DStep.vs (by kernel_rfl) (R_indexAddrM Cluster.cells l 4 0 rfl (by kernel_rfl) (by kernel_rfl) (by kernel_rfl) he1_)) ?_
      refine DSteps.cons (DStep.va) ?_
      refine DSteps.cons (DStep.va) ?_
      refine DSteps.cons (DStep.call rfl (by kernel_rfl) (by kernel_rfl) (by kernel_rfl) (args := [vi 0]) (by kernel_rfl) (by kernel_rfl) (lflagM_ok 0) (by kernel_rfl) (Nat.le_of_ble_eq_true (by kernel_rfl))) ?_
      refine DSteps.cons (DStep.row (t := 44) (by kernel_rfl) (R_buildSliceC (es := List.map Val.cells [(lflagM 0)]) rfl (by kernel_rfl))) ?_
      refine DSteps.cons (DStep.call rfl (by kernel_rfl) (by kernel_rfl) (by kernel_rfl) (args := [.agg (avs (Cluster.cells e1_)), vs (⟨#[116, 111, 103, 103, 108, 101]⟩), .agg [vi 0, vi 0, vs (⟨#[]⟩)], .rv (.sl 3 (([(lflagM 0)]).map Val.cells))]) (by kernel_rfl) (by kernel_rfl) (applyM_ok e1_ (⟨#[116, 111, 103, 103, 108, 101]⟩) (⟨0, 0, ⟨#[]⟩⟩ : Val) ([(lflagM 0)]) (by first | assumption | exact std_fit _ (List.mem_of_getElem? (by assumption)) | exact fit_s1 (by assumption) | exact std_fit | exact fun c hc => std_fit c (List.mem_of_mem_take (List.mem_of_mem_drop hc)) | exact Nat.le_trans (apply_len _ _ _ _) (by omega) | exact parts_fit (by assumption) | exact parts_fit (by assumption) _ (List.mem_of_getElem? (by assumption)) | (simp; done) | exact ⟨by simp, by simp⟩ | exact hw _ (List.mem_of_getElem? (by assumption)) | exact hw.1 _ (List.mem_of_getElem? (by assumption)) | exact (hw.2 _ (List.mem_of_getElem? (by assumption))).1 | exact (hw.2 _ (List.mem_of_getElem? (by assumption))).2 | omega | exact fit_take hw _) (by first | assumption | exact std_fit _ (List.mem_of_getElem? (by assumption)) | exact fit_s1 (by assumption) | exact std_fit | exact fun c hc => std_fit c (List.mem_of_mem_take (List.mem_of_mem_drop hc)) | exact Nat.le_trans (apply_len _ _ _ _) (by omega) | exact parts_fit (by assumption) | exact parts_fit (by assumption) _ (List.mem_of_getElem? (by assumption)) | (simp; done) | exact ⟨by simp, by simp⟩ | exact hw _ (List.mem_of_getElem? (by assumption)) | exact hw.1 _ (List.mem_of_getElem? (by assumption)) | exact (hw.2 _ (List.mem_of_getElem? (by assumption))).1 | exact (hw.2 _ (List.mem_of_getElem? (by assumption))).2 | omega | exact fit_take hw _)) (by kernel_rfl) (Nat.le_of_ble_eq_true (by kernel_rfl))) ?_
      refine DSteps.cons (DStep.va) ?_
      refine DSteps.cons (DStep.va) ?_
      refine DSteps.cons (DStep.va) ?_
      refine DSteps.cons (DStep.va) ?_
      refine DSteps.cons (DStep.va) ?_
      exact DSteps.nl
     refine AWp.dz [.rv (.sl 4 (l.map Cluster.cells)), .rv (.ptr (Cluster.cells e2_)), .agg (avs (Cluster.cells e2_)), .agg [vi 0, vi 0, vs (⟨#[]⟩)], .agg (avs (Val.cells (lnumberM 95))), .rv (.sl 3 (([(lnumberM 95)]).map Val.cells)), .tuple [.rv (.sl 3 (((applyM e2_ (⟨#[115, 116, 101, 112]⟩) (⟨0, 0, ⟨#[]⟩⟩ : Val) ([(lnumberM 95)])).1).map Val.cells)), vi ((applyM e2_ (⟨#[115, 116, 101, 112]⟩) (⟨0, 0, ⟨#[]⟩⟩ : Val) ([(lnumberM 95)])).2)], .tuple [.rv (.sl 3 (((applyM e2_ (⟨#[115, 116, 101, 112]⟩) (⟨0, 0, ⟨#[]⟩⟩ : Val) ([(lnumberM 95)])).1).map Val.cells)), vi ((applyM e2_ (⟨#[115, 116, 101, 112]⟩) (⟨0, 0, ⟨#[]⟩⟩ : Val) ([(lnumberM 95)])).2)], .rv (.sl 3 (((applyM e2_ (⟨#[115, 116, 101, 112]⟩) (⟨0, 0, ⟨#[]⟩⟩ : Val) ([(lnumberM 95)])).1).map Val.cells)), vi ((applyM e2_ (⟨#[115, 116, 101, 112]⟩) (⟨0, 0, ⟨#[]⟩⟩ : Val) ([(lnumberM 95)])).2), .rv (.sl 3 (((applyM e2_ (⟨#[115, 116, 101, 112]⟩) (⟨0, 0, ⟨#[]⟩⟩ : Val) ([(lnumberM 95)])).1).map Val.cells)), vi ((applyM e2_ (⟨#[115, 116, 101, 112]⟩) (⟨0, 0, ⟨#[]⟩⟩ : Val) ([(lnumberM 95)])).2)] 123 [(1, .rv (.sl 4 (l.map Cluster.cells))), (2, .rv (.sl 3 (((applyM e1_ (⟨#[116, 111, 103, 103, 108, 101]⟩) (⟨0, 0, ⟨#[]⟩⟩ : Val) ([(lflagM 0)])).1).map Val.cells))), (3, vi ((applyM e1_ (⟨#[116, 111, 103, 103, 108, 101]⟩) (⟨0, 0, ⟨#[]⟩⟩ : Val) ([(lflagM 0)])).2)), (4, .rv (.sl 3 (((applyM e2_ (⟨#[115, 116, 101, 112]⟩) (⟨0, 0, ⟨#[]⟩⟩ : Val) ([(lnumberM 95)])).1).map Val.cells))), (5, vi ((applyM e2_ (⟨#[115, 116, 101, 112]⟩) (⟨0, 0, ⟨#[]⟩⟩ : Val) ([(lnumberM 95)])).2))] [] 0 ?_ ?_
     ·
      refine DSteps.cons (DStep.va) ?_
      refine DSteps.cons (DStep.vs (by kernel_rfl) (R_indexAddrM Cluster.cells l 4 1 rfl (by kernel_rfl) (by kernel_rfl) (by kernel_rfl) he2_)) ?_
      refine DSteps.cons (DStep.va) ?_
      refine DSteps.cons (DStep.va) ?_
      refine DSteps.cons (DStep.call rfl (by kernel_rfl) (by kernel_rfl) (by kernel_rfl) (args := [vi 95]) (by kernel_rfl) (by kernel_rfl) (lnumberM_ok 95) (by kernel_rfl) (Nat.le_of_ble_eq_true (by kernel_rfl))) ?_
      refine DSteps.cons (DStep.row (t := 44) (by kernel_rfl) (R_buildSliceC (es := List.map Val.cells [(lnumberM 95)]) rfl (by kernel_rfl))) ?_
      refine DSteps.cons (DStep.call rfl (by kernel_rfl) (by kernel_rfl) (by kernel_rfl) (args := [.agg (avs (Cluster.cells e2_)), vs (⟨#[115, 116, 101, 112]⟩), .agg [vi 0, vi 0, vs (⟨#[]⟩)], .rv (.sl 3 (([(lnumberM 95)]).map Val.cells))]) (by kernel_rfl) (by kernel_rfl) (applyM_ok e2_ (⟨#[115, 116, 101, 112]⟩) (⟨0, 0, ⟨#[]⟩⟩ : Val) ([(lnumberM 95)]) (by first | assumption | exact std_fit _ (List.mem_of_getElem? (by assumption)) | exact fit_s1 (by assumption) | exact std_fit | exact fun c hc => std_fit c (List.mem_of_mem_take (List.mem_of_mem_drop hc)) | exact Nat.le_trans (apply_len _ _ _ _) (by omega) | exact parts_fit (by assumption) | exact parts_fit (by assumption) _ (List.mem_of_getElem? (by assumption)) | (simp; done) | exact ⟨by simp, by simp⟩ | exact hw _ (List.mem_of_getElem? (by assumption)) | exact hw.1 _ (List.mem_of_getElem? (by assumption)) | exact (hw.2 _ (List.mem_of_getElem? (by assumption))).1 | exact (hw.2 _ (List.mem_of_getElem? (by assumption))).2 | omega | exact fit_take hw _) (by first | assumption | exact std_fit _ (List.mem_of_getElem? (by assumption)) | exact fit_s1 (by assumption) | exact std_fit | exact fun c hc => std_fit c (List.mem_of_mem_take (List.mem_of_mem_drop hc)) | exact Nat.le_trans (apply_len _ _ _ _) (by omega) | exact parts_fit (by assumption) | exact parts_fit (by assumption) _ (List.mem_of_getElem? (by assumption)) | (simp; done) | exact ⟨by simp, by simp⟩ | exact hw _ (List.mem_of_getElem? (by assumption)) | exact hw.1 _ (List.mem_of_getElem? (by assumption)) | exact (hw.2 _ (List.mem_of_getElem? (by assumption))).1 | exact (hw.2 _ (List.mem_of_getElem? (by assumption))).2 | omega | exact fit_take hw _)) (by kernel_rfl) (Nat.le_of_ble_eq_true (by kernel_rfl))) ?_
      refine DSteps.cons (DStep.va) ?_
      refine DSteps.cons (DStep.va) ?_
      refine DSteps.cons (DStep.va) ?_
      refine DSteps.cons (DStep.va) ?_
      refine DSteps.cons (DStep.va) ?_
      exact DSteps.nl
     refine AWp.dz [.rv (.sl 4 (l.map Cluster.cells)), .rv (.ptr (Cluster.cells e2_)), .agg (avs (Cluster.cells e2_)), .agg (avs (Val.cells (lnumberM 101))), .agg (avs (Val.cells (lnumberM 5))), .rv (.sl 3 (([(lnumberM 5)]).map Val.cells)), .tuple [.rv (.sl 3 (((applyM e2_ (⟨#[109, 111, 118, 101]⟩) (lnumberM 101) ([(lnumberM 5)])).1).map Val.cells)), vi ((applyM e2_ (⟨#[109, 111, 118, 101]⟩) (lnumberM 101) ([(lnumberM 5)])).2)], .tuple [.rv (.sl 3 (((applyM e2_ (⟨#[109, 111, 118, 101]⟩) (lnumberM 101) ([(lnumberM 5)])).1).map Val.cells)), vi ((applyM e2_ (⟨#[109, 111, 118, 101]⟩) (lnumberM 101) ([(lnumberM 5)])).2)], .rv (.sl 3 (((applyM e2_ (⟨#[109, 111, 118, 101]⟩) (lnumberM 101) ([(lnumberM 5)])).1).map Val.cells)), vi ((applyM e2_ (⟨#[109, 111, 118, 101]⟩) (lnumberM 101) ([(lnumberM 5)])).2), .rv (.sl 3 (((applyM e2_ (⟨#[109, 111, 118, 101]⟩) (lnumberM 101) ([(lnumberM 5)])).1).map Val.cells)), vi ((applyM e2_ (⟨#[109, 111, 118, 101]⟩) (lnumberM 101) ([(lnumberM 5)])).2)] 123 [(1, .rv (.sl 4 (l.map Cluster.cells))), (2, .rv (.sl 3 (((applyM e1_ (⟨#[116, 111, 103, 103, 108, 101]⟩) (⟨0, 0, ⟨#[]⟩⟩ : Val) ([(lflagM 0)])).1).map Val.cells))), (3, vi ((applyM e1_ (⟨#[116, 111, 103, 103, 108, 101]⟩) (⟨0, 0, ⟨#[]⟩⟩ : Val) ([(lflagM 0)])).2)), (4, .rv (.sl 3 (((applyM e2_ (⟨#[115, 116, 101, 112]⟩) (⟨0, 0, ⟨#[]⟩⟩ : Val) ([(lnumberM 95)])).1).map Val.cells))), (5, vi ((applyM e2_ (⟨#[115, 116, 101, 112]⟩) (⟨0, 0, ⟨#[]⟩⟩ : Val) ([(lnumberM 95)])).2)), (7, vi ((applyM e2_ (⟨#[109, 111, 118, 101]⟩) (lnumberM 101) ([(lnumberM 5)])).2))] [] 0 ?_ ?_
     ·
      refine DSteps.cons (DStep.va) ?_
      refine DSteps.cons (DStep.vs (by kernel_rfl) (R_indexAddrM Cluster.cells l 4 1 rfl (by kernel_rfl) (by kernel_rfl) (by kernel_rfl) he2_)) ?_
      refine DSteps.cons (DStep.va) ?_
      refine DSteps.cons (DStep.call rfl (by kernel_rfl) (by kernel_rfl) (by kernel_rfl) (args := [vi 101]) (by kernel_rfl) (by kernel_rfl) (lnumberM_ok 101) (by kernel_rfl) (Nat.le_of_ble_eq_true (by kernel_rfl))) ?_
      refine DSteps.cons (DStep.call rfl (by kernel_rfl) (by kernel_rfl) (by kernel_rfl) (args := [vi 5]) (by kernel_rfl) (by kernel_rfl) (lnumberM_ok 5) (by kernel_rfl) (Nat.le_of_ble_eq_true (by kernel_rfl))) ?_
      refine DSteps.cons (DStep.row (t := 44) (by kernel_rfl) (R_buildSliceC (es := List.map Val.cells [(lnumberM 5)]) rfl (by kernel_rfl))) ?_
      refine DSteps.cons (DStep.call rfl (by kernel_rfl) (by kernel_rfl) (by kernel_rfl) (args := [.agg (avs (Cluster.cells e2_)), vs (⟨#[109, 111, 118, 101]⟩), .agg (avs (Val.cells (lnumberM 101))), .rv (.sl 3 (([(lnumberM 5)]).map Val.cells))]) (by kernel_rfl) (by kernel_rfl) (applyM_ok e2_ (⟨#[109, 111, 118, 101]⟩) (lnumberM 101) ([(lnumberM 5)]) (by first | assumption | exact std_fit _ (List.mem_of_getElem? (by assumption)) | exact fit_s1 (by assumption) | exact std_fit | exact fun c hc => std_fit c (List.mem_of_mem_take (List.mem_of_mem_drop hc)) | exact Nat.le_trans (apply_len _ _ _ _) (by omega) | exact parts_fit (by assumption) | exact parts_fit (by assumption) _ (List.mem_of_getElem? (by assumption)) | (simp; done) | exact ⟨by simp, by simp⟩ | exact hw _ (List.mem_of_getElem? (by assumption)) | exact hw.1 _ (List.mem_of_getElem? (by assumption)) | exact (hw.2 _ (List.mem_of_getElem? (by assumption))).1 | exact (hw.2 _ (List.mem_of_getElem? (by assumption))).2 | omega | exact fit_take hw _) (by first | assumption | exact std_fit _ (List.mem_of_getElem? (by assumption)) | exact fit_s1 (by assumption) | exact std_fit | exact fun c hc => std_fit c (List.mem_of_mem_take (List.mem_of_mem_drop hc)) | exact Nat.le_trans (apply_len _ _ _ _) (by omega) | exact parts_fit (by assumption) | exact parts_fit (by assumption) _ (List.mem_of_getElem? (by assumption)) | (simp; done) | exact ⟨by simp, by simp⟩ | exact hw _ (List.mem_of_getElem? (by assumption)) | exact hw.1 _ (List.mem_of_getElem? (by assumption)) | exact (hw.2 _ (List.mem_of_getElem? (by assumption))).1 | exact (hw.2 _ (List.mem_of_getElem? (by assumption))).2 | omega | exact fit_take hw _)) (by kernel_rfl) (Nat.le_of_ble_eq_true (by kernel_rfl))) ?_
      refine DSteps.cons (DStep.va) ?_
      refine DSteps.cons (DStep.va) ?_
      refine DSteps.cons (DStep.va) ?_
      refine DSteps.cons (DStep.va) ?_
      refine DSteps.cons (DStep.va) ?_
      exact DSteps.nl
     refine AWp.dz [.rv (.sl 4 (l.map Cluster.cells)), .rv (.ptr (Cluster.cells e3_)), .agg (avs (Cluster.cells e3_)), .agg [vi 0, vi 0, vs (⟨#[]⟩)], .agg (avs (Val.cells (lflagM 0))), .rv (.sl 3 (([(lflagM 0)]).map Val.cells)), .tuple [.rv (.sl 3 (((applyM e3_ (⟨#[106, 97, 109]⟩) (⟨0, 0, ⟨#[]⟩⟩ : Val) ([(lflagM 0)])).1).map Val.cells)), vi ((applyM e3_ (⟨#[106, 97, 109]⟩) (⟨0, 0, ⟨#[]⟩⟩ : Val) ([(lflagM 0)])).2)], .tuple [.rv (.sl 3 (((applyM e3_ (⟨#[106, 97, 109]⟩) (⟨0, 0, ⟨#[]⟩⟩ : Val) ([(lflagM 0)])).1).map Val.cells)), vi ((applyM e3_ (⟨#[106, 97, 109]⟩) (⟨0, 0, ⟨#[]⟩⟩ : Val) ([(lflagM 0)])).2)], .rv (.sl 3 (((applyM e3_ (⟨#[106, 97, 109]⟩) (⟨0, 0, ⟨#[]⟩⟩ : Val) ([(lflagM 0)])).1).map Val.cells)), vi ((applyM e3_ (⟨#[106, 97, 109]⟩) (⟨0, 0, ⟨#[]⟩⟩ : Val) ([(lflagM 0)])).2), .rv (.sl 3 (((applyM e3_ (⟨#[106, 97, 109]⟩) (⟨0, 0, ⟨#[]⟩⟩ : Val) ([(lflagM 0)])).1).map Val.cells)), vi ((applyM e3_ (⟨#[106, 97, 109]⟩) (⟨0, 0, ⟨#[]⟩⟩ : Val) ([(lflagM 0)])).2)] 123 [(1, .rv (.sl 4 (l.map Cluster.cells))), (2, .rv (.sl 3 (((applyM e1_ (⟨#[116, 111, 103, 103, 108, 101]⟩) (⟨0, 0, ⟨#[]⟩⟩ : Val) ([(lflagM 0)])).1).map Val.cells))), (3, vi ((applyM e1_ (⟨#[116, 111, 103, 103, 108, 101]⟩) (⟨0, 0, ⟨#[]⟩⟩ : Val) ([(lflagM 0)])).2)), (4, .rv (.sl 3 (((applyM e2_ (⟨#[115, 116, 101, 112]⟩) (⟨0, 0, ⟨#[]⟩⟩ : Val) ([(lnumberM 95)])).1).map Val.cells))), (5, vi ((applyM e2_ (⟨#[115, 116, 101, 112]⟩) (⟨0, 0, ⟨#[]⟩⟩ : Val) ([(lnumberM 95)])).2)), (7, vi ((applyM e2_ (⟨#[109, 111, 118, 101]⟩) (lnumberM 101) ([(lnumberM 5)])).2)), (9, vi ((applyM e3_ (⟨#[106, 97, 109]⟩) (⟨0, 0, ⟨#[]⟩⟩ : Val) ([(lflagM 0)])).2))] [] 0 ?_ ?_
     ·
      refine DSteps.cons (DStep.va) ?_
      refine DSteps.cons (DStep.vs (by kernel_rfl) (R_indexAddrM Cluster.cells l 4 2 rfl (by kernel_rfl) (by kernel_rfl) (by kernel_rfl) he3_)) ?_
      refine DSteps.cons (DStep.va) ?_
      refine DSteps.cons (DStep.va) ?_
      refine DSteps.cons (DStep.call rfl (by kernel_rfl) (by kernel_rfl) (by kernel_rfl) (args := [vi 0]) (by kernel_rfl) (by kernel_rfl) (lflagM_ok 0) (by kernel_rfl) (Nat.le_of_ble_eq_true (by kernel_rfl))) ?_
      refine DSteps.cons (DStep.row (t := 44) (by kernel_rfl) (R_buildSliceC (es := List.map Val.cells [(lflagM 0)]) rfl (by kernel_rfl))) ?_
      refine DSteps.cons (DStep.call rfl (by kernel_rfl) (by kernel_rfl) (by kernel_rfl) (args := [.agg (avs (Cluster.cells e3_)), vs (⟨#[106, 97, 109]⟩), .agg [vi 0, vi 0, vs (⟨#[]⟩)], .rv (.sl 3 (([(lflagM 0)]).map Val.cells))]) (by kernel_rfl) (by kernel_rfl) (applyM_ok e3_ (⟨#[106, 97, 109]⟩) (⟨0, 0, ⟨#[]⟩⟩ : Val) ([(lflagM 0)]) (by first | assumption | exact std_fit _ (List.mem_of_getElem? (by assumption)) | exact fit_s1 (by assumption) | exact std_fit | exact fun c hc => std_fit c (List.mem_of_mem_take (List.mem_of_mem_drop hc)) | exact Nat.le_trans (apply_len _ _ _ _) (by omega) | exact parts_fit (by assumption) | exact parts_fit (by assumption) _ (List.mem_of_getElem? (by assumption)) | (simp; done) | exact ⟨by simp, by simp⟩ | exact hw _ (List.mem_of_getElem? (by assumption)) | exact hw.1 _ (List.mem_of_getElem? (by assumption)) | exact (hw.2 _ (List.mem_of_getElem? (by assumption))).1 | exact (hw.2 _ (List.mem_of_getElem? (by assumption))).2 | omega | exact fit_take hw _) (by first | assumption | exact std_fit _ (List.mem_of_getElem? (by assumption)) | exact fit_s1 (by assumption) | exact std_fit | exact fun c hc => std_fit c (List.mem_of_mem_take (List.mem_of_mem_drop hc)) | exact Nat.le_trans (apply_len _ _ _ _) (by omega) | exact parts_fit (by assumption) | exact parts_fit (by assumption) _ (List.mem_of_getElem? (by assumption)) | (simp; done) | exact ⟨by simp, by simp⟩ | exact hw _ (List.mem_of_getElem? (by assumption)) | exact hw.1 _ (List.mem_of_getElem? (by assumption)) | exact (hw.2 _ (List.mem_of_getElem? (by assumption))).1 | exact (hw.2 _ (List.mem_of_getElem? (by assumption))).2 | omega | exact fit_take hw _)) (by kernel_rfl) (Nat.le_of_ble_eq_true (by kernel_rfl))) ?_
      refine DSteps.cons (DStep.va) ?_
      refine DSteps.cons (DStep.va) ?_
      refine DSteps.cons (DStep.va) ?_
      refine DSteps.cons (DStep.va) ?_
      refine DSteps.cons (DStep.va) ?_
      exact DSteps.nl
     refine AWp.seq ?_
     refine AWp.split ((((applyM e1_ (⟨#[116, 111, 103, 103, 108, 101]⟩) (⟨0, 0, ⟨#[]⟩⟩ : Val) ([(lflagM 0)])).2) != 0)) (fun h6 => ?_) (fun h6 => ?_)
     ·
      refine AWp.dz [vi ((applyM e1_ (⟨#[116, 111, 103, 103, 108, 101]⟩) (⟨0, 0, ⟨#[]⟩⟩ : Val) ([(lflagM 0)])).2), vb true, vb true, .tuple [], .tuple [], .tuple [], vb true, vb true, .tuple [], .tuple [], .tuple [], .tuple [], .tuple [], vb true, vb true, .tuple [], .tuple [], vb true, vb true, .tuple [], .tuple [], .tuple [], vb true, vb true, .tuple [], .tuple [], .tuple [], .tuple [], .tuple [], vb true, vb true, .tuple [], .tuple [], vb true, vb true, .tuple [], .tuple [], vb true] 123 [(1, .rv (.sl 4 (l.map Cluster.cells))), (112, vb true)] [] 0 ?_ ?_
      ·
       refine DSteps.cons (DStep.va) ?_
       refine DSteps.cons ((DStep.val (v := vb (((applyM e1_ (⟨#[116, 111, 103, 103, 108, 101]⟩) (⟨0, 0, ⟨#[]⟩⟩ : Val) ([(lflagM 0)])).2) != 0)) (by kernel_rfl) (by kernel_rfl)).cast (congrArg vb h6)) ?_
       refine DSteps.cons (DStep.va) ?_
       refine DSteps.cons (DStep.skip (by kernel_rfl)) ?_
       refine DSteps.cons (DStep.skip (by kernel_rfl)) ?_
       refine DSteps.cons (DStep.skip (by kernel_rfl)) ?_
       refine DSteps.cons (DStep.va) ?_
       refine DSteps.cons (DStep.va) ?_
       refine DSteps.cons (DStep.skip (by kernel_rfl)) ?_
       refine DSteps.cons (DStep.skip (by kernel_rfl)) ?_
       refine DSteps.cons (DStep.skip (by kernel_rfl)) ?_
       refine DSteps.cons (DStep.skip (by kernel_rfl)) ?_
       refine DSteps.cons (DStep.skip (by kernel_rfl)) ?_
       refine DSteps.cons (DStep.va) ?_
       refine DSteps.cons (DStep.va) ?_
       refine DSteps.cons (DStep.skip (by kernel_rfl)) ?_
       refine DSteps.cons (DStep.skip (by kernel_rfl)) ?_
       refine DSteps.cons (DStep.va) ?_
       refine DSteps.cons (DStep.va) ?_
       refine DSteps.cons (DStep.skip (by kernel_rfl)) ?_
       refine DSteps.cons (DStep.skip (by kernel_rfl)) ?_
       refine DSteps.cons (DStep.skip (by kernel_rfl)) ?_
       refine DSteps.cons (DStep.va) ?_
       refine DSteps.cons (DStep.va) ?_
       refine DSteps.cons (DStep.skip (by kernel_rfl)) ?_
       refine DSteps.cons (DStep.skip (by kernel_rfl)) ?_
       refine DSteps.cons (DStep.skip (by kernel_rfl)) ?_
       refine DSteps.cons (DStep.skip (by kernel_rfl)) ?_
       refine DSteps.cons (DStep.skip (by kernel_rfl)) ?_
       refine DSteps.cons (DStep.va) ?_
       refine DSteps.cons (DStep.va) ?_
       refine DSteps.cons (DStep.skip (by kernel_rfl)) ?_
       refine DSteps.cons (DStep.skip (by kernel_rfl)) ?_
       refine DSteps.cons (DStep.va) ?_
       refine DSteps.cons (DStep.va) ?_
       refine DSteps.cons (DStep.skip (by kernel_rfl)) ?_
       refine DSteps.cons (DStep.skip (by kernel_rfl)) ?_
       refine DSteps.cons (DStep.va) ?_
       exact DSteps.nl
      refine AWp.cndT ?_
      refine AWp.hz [.run 1] 123 [(0, vb false)] [] 0 ?_
      refine AWp.ret ?_
      exact leafR (r := vb false) (by unfold awakeM; (try simp only [he1_]); (try simp only [he2_]); (try simp only [he3_]); (try rw [hg2]); (try rw [hg3]); (try rw [hg4]); (try rw [h5]); (try rw [h6]); first | done | kernel_rfl)
     ·
      refine AWp.split ((((((applyM e1_ (⟨#[116, 111, 103, 103, 108, 101]⟩) (⟨0, 0, ⟨#[]⟩⟩ : Val) ([(lflagM 0)])).1).length : Nat) : Int) != 1)) (fun h7 => ?_) (fun h7 => ?_)
      ·
       have h7' := bne_t h7
       refine AWp.dz [vi ((applyM e1_ (⟨#[116, 111, 103, 103, 108, 101]⟩) (⟨0, 0, ⟨#[]⟩⟩ : Val) ([(lflagM 0)])).2), vb false, vb false, .rv (.sl 3 (((applyM e1_ (⟨#[116, 111, 103, 103, 108, 101]⟩) (⟨0, 0, ⟨#[]⟩⟩ : Val) ([(lflagM 0)])).1).map Val.cells)), vi ((((applyM e1_ (⟨#[116, 111, 103, 103, 108, 101]⟩) (⟨0, 0, ⟨#[]⟩⟩ : Val) ([(lflagM 0)])).1).length : Nat) : Int), vb true, vb true, vb true, .tuple [], .tuple [], .tuple [], .tuple [], .tuple [], vb true, vb true, .tuple [], .tuple [], vb true, vb true, .tuple [], .tuple [], .tuple [], vb true, vb true, .tuple [], .tuple [], .tuple [], .tuple [], .tuple [], vb true, vb true, .tuple [], .tuple [], vb true, vb true, .tuple [], .tuple [], vb true] 123 [(1, .rv (.sl 4 (l.map Cluster.cells))), (112, vb true)] [] 0 ?_ ?_
       ·
        refine DSteps.cons (DStep.va) ?_
        refine DSteps.cons ((DStep.val (v := vb (((applyM e1_ (⟨#[116, 111, 103, 103, 108, 101]⟩) (⟨0, 0, ⟨#[]⟩⟩ : Val) ([(lflagM 0)])).2) != 0)) (by kernel_rfl) (by kernel_rfl)).cast (congrArg vb h6)) ?_
        refine DSteps.cons (DStep.va) ?_
        refine DSteps.cons (DStep.va) ?_
        refine DSteps.cons (DStep.vs (by kernel_rfl) (R_lenM Val.cells ((applyM e1_ (⟨#[116, 111, 103, 103, 108, 101]⟩) (⟨0, 0, ⟨#[]⟩⟩ : Val) ([(lflagM 0)])).1) 3 rfl (by kernel_rfl) (by kernel_rfl))) ?_
        refine DSteps.cons ((DStep.val (v := vb (((((applyM e1_ (⟨#[116, 111, 103, 103, 108, 101]⟩) (⟨0, 0, ⟨#[]⟩⟩ : Val) ([(lflagM 0)])).1).length : Nat) : Int) != 1)) (by kernel_rfl) (by kernel_rfl)).cast (congrArg vb h7)) ?_
        refine DSteps.cons (DStep.va) ?_
        refine DSteps.cons (DStep.va) ?_
        refine DSteps.cons (DStep.skip (by kernel_rfl)) ?_
        refine DSteps.cons (DStep.skip (by kernel_rfl)) ?_
        refine DSteps.cons (DStep.skip (by kernel_rfl)) ?_
        refine DSteps.cons (DStep.skip (by kernel_rfl)) ?_
        refine DSteps.cons (DStep.skip (by kernel_rfl)) ?_
        refine DSteps.cons (DStep.va) ?_
        refine DSteps.cons (DStep.va) ?_
        refine DSteps.cons (DStep.skip (by kernel_rfl)) ?_
        refine DSteps.cons (DStep.skip (by kernel_rfl)) ?_
        refine DSteps.cons (DStep.va) ?_
        refine DSteps.cons (DStep.va) ?_
        refine DSteps.cons (DStep.skip (by kernel_rfl)) ?_
        refine DSteps.cons (DStep.skip (by kernel_rfl)) ?_
        refine DSteps.cons (DStep.skip (by kernel_rfl)) ?_
        refine DSteps.cons (DStep.va) ?_
        refine DSteps.cons (DStep.va) ?_
        refine DSteps.cons (DStep.skip (by kernel_rfl)) ?_
        refine DSteps.cons (DStep.skip (by kernel_rfl)) ?_
        refine DSteps.cons (DStep.skip (by kernel_rfl)) ?_
        refine DSteps.cons (DStep.skip (by kernel_rfl)) ?_
        refine DSteps.cons (DStep.skip (by kernel_rfl)) ?_
        refine DSteps.cons (DStep.va) ?_
        refine DSteps.cons (DStep.va) ?_
        refine DSteps.cons (DStep.skip (by kernel_rfl)) ?_
        refine DSteps.cons (DStep.skip (by kernel_rfl)) ?_
        refine DSteps.cons (DStep.va) ?_
        refine DSteps.cons (DStep.va) ?_
        refine DSteps.cons (DStep.skip (by kernel_rfl)) ?_
        refine DSteps.cons (DStep.skip (by kernel_rfl)) ?_
        refine DSteps.cons (DStep.va) ?_
        exact DSteps.nl
       refine AWp.cndT ?_
       refine AWp.hz [.run 1] 123 [(0, vb false)] [] 0 ?_
       refine AWp.ret ?_
       exact leafR (r := vb false) (by unfold awakeM; (try simp only [he1_]); (try simp only [he2_]); (try simp only [he3_]); (try rw [hg2]); (try rw [hg3]); (try rw [hg4]); (try rw [h5]); (try rw [h6]); (try rw [h7]); first | done | kernel_rfl)
      ·
       have h7' := bne_f h7
       obtain ⟨e4_, he4_⟩ : ∃ e_, ((applyM e1_ (⟨#[116, 111, 103, 103, 108, 101]⟩) (⟨0, 0, ⟨#[]⟩⟩ : Val) ([(lflagM 0)])).1)[0]? = some e_ := ⟨_, List.getElem?_eq_getElem (by omega)⟩
       refine AWp.split (!((e4_.kind == (lflagM 1).kind) && ((e4_.n == (lflagM 1).n) && (beqS e4_.s ((lflagM 1).s) && true)))) (fun h8 => ?_) (fun h8 => ?_)
       ·
        refine AWp.dz [vi ((applyM e1_ (⟨#[116, 111, 103, 103, 108, 101]⟩) (⟨0, 0, ⟨#[]⟩⟩ : Val) ([(lflagM 0)])).2), vb false, vb false, .rv (.sl 3 (((applyM e1_ (⟨#[116, 111, 103, 103, 108, 101]⟩) (⟨0, 0, ⟨#[]⟩⟩ : Val) ([(lflagM 0)])).1).map Val.cells)), vi ((((applyM e1_ (⟨#[116, 111, 103, 103, 108, 101]⟩) (⟨0, 0, ⟨#[]⟩⟩ : Val) ([(lflagM 0)])).1).length : Nat) : Int), vb false, vb false, vb false, .rv (.sl 3 (((applyM e1_ (⟨#[116, 111, 103, 103, 108, 101]⟩) (⟨0, 0, ⟨#[]⟩⟩ : Val) ([(lflagM 0)])).1).map Val.cells)), .rv (.ptr (Val.cells e4_)), .agg (avs (Val.cells e4_)), .agg (avs (Val.cells (lflagM 1))), vb true, vb true, vb true, .tuple [], .tuple [], vb true, vb true, .tuple [], .tuple [], .tuple [], vb true, vb true, .tuple [], .tuple [], .tuple [], .tuple [], .tuple [], vb true, vb true, .tuple [], .tuple [], vb true, vb true, .tuple [], .tuple [], vb true] 123 [(1, .rv (.sl 4 (l.map Cluster.cells))), (112, vb true)] [] 0 ?_ ?_
        ·
         refine DSteps.cons (DStep.va) ?_
         refine DSteps.cons ((DStep.val (v := vb (((applyM e1_ (⟨#[116, 111, 103, 103, 108, 101]⟩) (⟨0, 0, ⟨#[]⟩⟩ : Val) ([(lflagM 0)])).2) != 0)) (by kernel_rfl) (by kernel_rfl)).cast (congrArg vb h6)) ?_
         refine DSteps.cons (DStep.va) ?_
         refine DSteps.cons (DStep.va) ?_
         refine DSteps.cons (DStep.vs (by kernel_rfl) (R_lenM Val.cells ((applyM e1_ (⟨#[116, 111, 103, 103, 108, 101]⟩) (⟨0, 0, ⟨#[]⟩⟩ : Val) ([(lflagM 0)])).1) 3 rfl (by kernel_rfl) (by kernel_rfl))) ?_
         refine DSteps.cons ((DStep.val (v := vb (((((applyM e1_ (⟨#[116, 111, 103, 103, 108, 101]⟩) (⟨0, 0, ⟨#[]⟩⟩ : Val) ([(lflagM 0)])).1).length : Nat) : Int) != 1)) (by kernel_rfl) (by kernel_rfl)).cast (congrArg vb h7)) ?_
         refine DSteps.cons (DStep.va) ?_
         refine DSteps.cons (DStep.va) ?_
         refine DSteps.cons (DStep.va) ?_
         refine DSteps.cons (DStep.vs (by kernel_rfl) (R_indexAddrM Val.cells ((applyM e1_ (⟨#[116, 111, 103, 103, 108, 101]⟩) (⟨0, 0, ⟨#[]⟩⟩ : Val) ([(lflagM 0)])).1) 3 0 rfl (by kernel_rfl) (by kernel_rfl) (by kernel_rfl) he4_)) ?_
         refine DSteps.cons (DStep.va) ?_
         refine DSteps.cons (DStep.call rfl (by kernel_rfl) (by kernel_rfl) (by kernel_rfl) (args := [vi 1]) (by kernel_rfl) (by kernel_rfl) (lflagM_ok 1) (by kernel_rfl) (Nat.le_of_ble_eq_true (by kernel_rfl))) ?_
         refine DSteps.cons ((DStep.val (v := vb (!((e4_.kind == (lflagM 1).kind) && ((e4_.n == (lflagM 1).n) && (beqS e4_.s ((lflagM 1).s) && true))))) (by kernel_rfl) (by kernel_rfl)).cast (congrArg vb h8)) ?_
         refine DSteps.cons (DStep.va) ?_
         refine DSteps.cons (DStep.va) ?_
         refine DSteps.cons (DStep.skip (by kernel_rfl)) ?_
         refine DSteps.cons (DStep.skip (by kernel_rfl)) ?_
         refine DSteps.cons (DStep.va) ?_
         refine DSteps.cons (DStep.va) ?_
         refine DSteps.cons (DStep.skip (by kernel_rfl)) ?_
         refine DSteps.cons (DStep.skip (by kernel_rfl)) ?_
         refine DSteps.cons (DStep.skip (by kernel_rfl)) ?_
         refine DSteps.cons (DStep.va) ?_
         refine DSteps.cons (DStep.va) ?_
         refine DSteps.cons (DStep.skip (by kernel_rfl)) ?_
         refine DSteps.cons (DStep.skip (by kernel_rfl)) ?_
         refine DSteps.cons (DStep.skip (by kernel_rfl)) ?_
         refine DSteps.cons (DStep.skip (by kernel_rfl)) ?_
         refine DSteps.cons (DStep.skip (by kernel_rfl)) ?_
         refine DSteps.cons (DStep.va) ?_
         refine DSteps.cons (DStep.va) ?_
         refine DSteps.cons (DStep.skip (by kernel_rfl)) ?_
         refine DSteps.cons (DStep.skip (by kernel_rfl)) ?_
         refine DSteps.cons (DStep.va) ?_
         refine DSteps.cons (DStep.va) ?_
         refine DSteps.cons (DStep.skip (by kernel_rfl)) ?_
         refine DSteps.cons (DStep.skip (by kernel_rfl)) ?_
         refine DSteps.cons (DStep.va) ?_
         exact DSteps.nl
        refine AWp.cndT ?_
        refine AWp.hz [.run 1] 123 [(0, vb false)] [] 0 ?_
        refine AWp.ret ?_
        exact leafR (r := vb false) (by unfold awakeM; (try simp only [he1_]); (try simp only [he2_]); (try simp only [he3_]); (try simp only [he4_]); (try rw [hg2]); (try rw [hg3]); (try rw [hg4]); (try rw [h5]); (try rw [h6]); (try rw [h7]); (try rw [h8]); first | done | kernel_rfl)
       ·
        refine AWp.split ((((applyM e2_ (⟨#[115, 116, 101, 112]⟩) (⟨0, 0, ⟨#[]⟩⟩ : Val) ([(lnumberM 95)])).2) != 0)) (fun h9 => ?_) (fun h9 => ?_)
        ·
         refine AWp.dz [vi ((applyM e1_ (⟨#[116, 111, 103, 103, 108, 101]⟩) (⟨0, 0, ⟨#[]⟩⟩ : Val) ([(lflagM 0)])).2), vb false, vb false, .rv (.sl 3 (((applyM e1_ (⟨#[116, 111, 103, 103, 108, 101]⟩) (⟨0, 0, ⟨#[]⟩⟩ : Val) ([(lflagM 0)])).1).map Val.cells)), vi ((((applyM e1_ (⟨#[116, 111, 103, 103, 108, 101]⟩) (⟨0, 0, ⟨#[]⟩⟩ : Val) ([(lflagM 0)])).1).length : Nat) : Int), vb false, vb false, vb false, .rv (.sl 3 (((applyM e1_ (⟨#[116, 111, 103, 103, 108, 101]⟩) (⟨0, 0, ⟨#[]⟩⟩ : Val) ([(lflagM 0)])).1).map Val.cells)), .rv (.ptr (Val.cells e4_)), .agg (avs (Val.cells e4_)), .agg (avs (Val.cells (lflagM 1))), vb false, vb false, vb false, vi ((applyM e2_ (⟨#[115, 116, 101, 112]⟩) (⟨0, 0, ⟨#[]⟩⟩ : Val) ([(lnumberM 95)])).2), vb true, vb true, vb true, .tuple [], .tuple [], .tuple [], vb true, vb true, .tuple [], .tuple [], .tuple [], .tuple [], .tuple [], vb true, vb true, .tuple [], .tuple [], vb true, vb true, .tuple [], .tuple [], vb true] 123 [(1, .rv (.sl 4 (l.map Cluster.cells))), (112, vb true)] [] 0 ?_ ?_
         ·
          refine DSteps.cons (DStep.va) ?_
          refine DSteps.cons ((DStep.val (v := vb (((applyM e1_ (⟨#[116, 111, 103, 103, 108, 101]⟩) (⟨0, 0, ⟨#[]⟩⟩ : Val) ([(lflagM 0)])).2) != 0)) (by kernel_rfl) (by kernel_rfl)).cast (congrArg vb h6)) ?_
          refine DSteps.cons (DStep.va) ?_
          refine DSteps.cons (DStep.va) ?_
          refine DSteps.cons (DStep.vs (by kernel_rfl) (R_lenM Val.cells ((applyM e1_ (⟨#[116, 111, 103, 103, 108, 101]⟩) (⟨0, 0, ⟨#[]⟩⟩ : Val) ([(lflagM 0)])).1) 3 rfl (by kernel_rfl) (by kernel_rfl))) ?_
          refine DSteps.cons ((DStep.val (v := vb (((((applyM e1_ (⟨#[116, 111, 103, 103, 108, 101]⟩) (⟨0, 0, ⟨#[]⟩⟩ : Val) ([(lflagM 0)])).1).length : Nat) : Int) != 1)) (by kernel_rfl) (by kernel_rfl)).cast (congrArg vb h7)) ?_
          refine DSteps.cons (DStep.va) ?_
          refine DSteps.cons (DStep.va) ?_
          refine DSteps.cons (DStep.va) ?_
          refine DSteps.cons (DStep.vs (by kernel_rfl) (R_indexAddrM Val.cells ((applyM e1_ (⟨#[116, 111, 103, 103, 108, 101]⟩) (⟨0, 0, ⟨#[]⟩⟩ : Val) ([(lflagM 0)])).1) 3 0 rfl (by kernel_rfl) (by kernel_rfl) (by kernel_rfl) he4_)) ?_
          refine DSteps.cons (DStep.va) ?_
          refine DSteps.cons (DStep.call rfl (by kernel_rfl) (by kernel_rfl) (by kernel_rfl) (args := [vi 1]) (by kernel_rfl) (by kernel_rfl) (lflagM_ok 1) (by kernel_rfl) (Nat.le_of_ble_eq_true (by kernel_rfl))) ?_
          refine DSteps.cons ((DStep.val (v := vb (!((e4_.kind == (lflagM 1).kind) && ((e4_.n == (lflagM 1).n) && (beqS e4_.s ((lflagM 1).s) && true))))) (by kernel_rfl) (by kernel_rfl)).cast (congrArg vb h8)) ?_
          refine DSteps.cons (DStep.va) ?_
          refine DSteps.cons (DStep.va) ?_
          refine DSteps.cons (DStep.va) ?_
          refine DSteps.cons ((DStep.val (v := vb (((applyM e2_ (⟨#[115, 116, 101, 112]⟩) (⟨0, 0, ⟨#[]⟩⟩ : Val) ([(lnumberM 95)])).2) != 0)) (by kernel_rfl) (by kernel_rfl)).cast (congrArg vb h9)) ?_
          refine DSteps.cons (DStep.va) ?_
          refine DSteps.cons (DStep.va) ?_
          refine DSteps.cons (DStep.skip (by kernel_rfl)) ?_
          refine DSteps.cons (DStep.skip (by kernel_rfl)) ?_
          refine DSteps.cons (DStep.skip (by kernel_rfl)) ?_
          refine DSteps.cons (DStep.va) ?_
          refine DSteps.cons (DStep.va) ?_
          refine DSteps.cons (DStep.skip (by kernel_rfl)) ?_
          refine DSteps.cons (DStep.skip (by kernel_rfl)) ?_
          refine DSteps.cons (DStep.skip (by kernel_rfl)) ?_
          refine DSteps.cons (DStep.skip (by kernel_rfl)) ?_
          refine DSteps.cons (DStep.skip (by kernel_rfl)) ?_
          refine DSteps.cons (DStep.va) ?_
          refine DSteps.cons (DStep.va) ?_
          refine DSteps.cons (DStep.skip (by kernel_rfl)) ?_
          refine DSteps.cons (DStep.skip (by kernel_rfl)) ?_
          refine DSteps.cons (DStep.va) ?_
          refine DSteps.cons (DStep.va) ?_
          refine DSteps.cons (DStep.skip (by kernel_rfl)) ?_
          refine DSteps.cons (DStep.skip (by kernel_rfl)) ?_
          refine DSteps.cons (DStep.va) ?_
          exact DSteps.nl
         refine AWp.cndT ?_
         refine AWp.hz [.run 1] 123 [(0, vb false)] [] 0 ?_
         refine AWp.ret ?_
         exact leafR (r := vb false) (by unfold awakeM; (try simp only [he1_]); (try simp only [he2_]); (try simp only [he3_]); (try simp only [he4_]); (try rw [hg2]); (try rw [hg3]); (try rw [hg4]); (try rw [h5]); (try rw [h6]); (try rw [h7]); (try rw [h8]); (try rw [h9]); first | done | kernel_rfl)
        ·
         refine AWp.split ((((((applyM e2_ (⟨#[115, 116, 101, 112]⟩) (⟨0, 0, ⟨#[]⟩⟩ : Val) ([(lnumberM 95)])).1).length : Nat) : Int) != 1)) (fun h10 => ?_) (fun h10 => ?_)
         ·
          have h10' := bne_t h10
          refine AWp.dz [vi ((applyM e1_ (⟨#[116, 111, 103, 103, 108, 101]⟩) (⟨0, 0, ⟨#[]⟩⟩ : Val) ([(lflagM 0)])).2), vb false, vb false, .rv (.sl 3 (((applyM e1_ (⟨#[116, 111, 103, 103, 108, 101]⟩) (⟨0, 0, ⟨#[]⟩⟩ : Val) ([(lflagM 0)])).1).map Val.cells)), vi ((((applyM e1_ (⟨#[116, 111, 103, 103, 108, 101]⟩) (⟨0, 0, ⟨#[]⟩⟩ : Val) ([(lflagM 0)])).1).length : Nat) : Int), vb false, vb false, vb false, .rv (.sl 3 (((applyM e1_ (⟨#[116, 111, 103, 103, 108, 101]⟩) (⟨0, 0, ⟨#[]⟩⟩ : Val) ([(lflagM 0)])).1).map Val.cells)), .rv (.ptr (Val.cells e4_)), .agg (avs (Val.cells e4_)), .agg (avs (Val.cells (lflagM 1))), vb false, vb false, vb false, vi ((applyM e2_ (⟨#[115, 116, 101, 112]⟩) (⟨0, 0, ⟨#[]⟩⟩ : Val) ([(lnumberM 95)])).2), vb false, vb false, vb false, .rv (.sl 3 (((applyM e2_ (⟨#[115, 116, 101, 112]⟩) (⟨0, 0, ⟨#[]⟩⟩ : Val) ([(lnumberM 95)])).1).map Val.cells)), vi ((((applyM e2_ (⟨#[115, 116, 101, 112]⟩) (⟨0, 0, ⟨#[]⟩⟩ : Val) ([(lnumberM 95)])).1).length : Nat) : Int), vb true, vb true, vb true, .tuple [], .tuple [], .tuple [], .tuple [], .tuple [], vb true, vb true, .tuple [], .tuple [], vb true, vb true, .tuple [], .tuple [], vb true] 123 [(1, .rv (.sl 4 (l.map Cluster.cells))), (112, vb true)] [] 0 ?_ ?_
          ·
           refine DSteps.cons (DStep.va) ?_
           refine DSteps.cons ((DStep.val (v := vb (((applyM e1_ (⟨#[116, 111, 103, 103, 108, 101]⟩) (⟨0, 0, ⟨#[]⟩⟩ : Val) ([(lflagM 0)])).2) != 0)) (by kernel_rfl) (by kernel_rfl)).cast (congrArg vb h6)) ?_
           refine DSteps.cons (DStep.va) ?_
           refine DSteps.cons (DStep.va) ?_
           refine DSteps.cons (DStep.vs (by kernel_rfl) (R_lenM Val.cells ((applyM e1_ (⟨#[116, 111, 103, 103, 108, 101]⟩) (⟨0, 0, ⟨#[]⟩⟩ : Val) ([(lflagM 0)])).1) 3 rfl (by kernel_rfl) (by kernel_rfl))) ?_
           refine DSteps.cons ((DStep.val (v := vb (((((applyM e1_ (⟨#[116, 111, 103, 103, 108, 101]⟩) (⟨0, 0, ⟨#[]⟩⟩ : Val) ([(lflagM 0)])).1).length : Nat) : Int) != 1)) (by kernel_rfl) (by kernel_rfl)).cast (congrArg vb h7)) ?_
           refine DSteps.cons (DStep.va) ?_
           refine DSteps.cons (DStep.va) ?_
           refine DSteps.cons (DStep.va) ?_
           refine DSteps.cons (DStep.vs (by kernel_rfl) (R_indexAddrM Val.cells ((applyM e1_ (⟨#[116, 111, 103, 103, 108, 101]⟩) (⟨0, 0, ⟨#[]⟩⟩ : Val) ([(lflagM 0)])).1) 3 0 rfl (by kernel_rfl) (by kernel_rfl) (by kernel_rfl) he4_)) ?_
           refine DSteps.cons (DStep.va) ?_
           refine DSteps.cons (DStep.call rfl (by kernel_rfl) (by kernel_rfl) (by kernel_rfl) (args := [vi 1]) (by kernel_rfl) (by kernel_rfl) (lflagM_ok 1) (by kernel_rfl) (Nat.le_of_ble_eq_true (by kernel_rfl))) ?_
           refine DSteps.cons ((DStep.val (v := vb (!((e4_.kind == (lflagM 1).kind) && ((e4_.n == (lflagM 1).n) && (beqS e4_.s ((lflagM 1).s) && true))))) (by kernel_rfl) (by kernel_rfl)).cast (congrArg vb h8)) ?_
           refine DSteps.cons (DStep.va) ?_
           refine DSteps.cons (DStep.va) ?_
           refine DSteps.cons (DStep.va) ?_
           refine DSteps.cons ((DStep.val (v := vb (((applyM e2_ (⟨#[115, 116, 101, 112]⟩) (⟨0, 0, ⟨#[]⟩⟩ : Val) ([(lnumberM 95)])).2) != 0)) (by kernel_rfl) (by kernel_rfl)).cast (congrArg vb h9)) ?_
           refine DSteps.cons (DStep.va) ?_
           refine DSteps.cons (DStep.va) ?_
           refine DSteps.cons (DStep.va) ?_
           refine DSteps.cons (DStep.vs (by kernel_rfl) (R_lenM Val.cells ((applyM e2_ (⟨#[115, 116, 101, 112]⟩) (⟨0, 0, ⟨#[]⟩⟩ : Val) ([(lnumberM 95)])).1) 3 rfl (by kernel_rfl) (by kernel_rfl))) ?_
           refine DSteps.cons ((DStep.val (v := vb (((((applyM e2_ (⟨#[115, 116, 101, 112]⟩) (⟨0, 0, ⟨#[]⟩⟩ : Val) ([(lnumberM 95)])).1).length : Nat) : Int) != 1)) (by kernel_rfl) (by kernel_rfl)).cast (congrArg vb h10)) ?_
           refine DSteps.cons (DStep.va) ?_
           refine DSteps.cons (DStep.va) ?_
           refine DSteps.cons (DStep.skip (by kernel_rfl)) ?_
           refine DSteps.cons (DStep.skip (by kernel_rfl)) ?_
           refine DSteps.cons (DStep.skip (by kernel_rfl)) ?_
           refine DSteps.cons (DStep.skip (by kernel_rfl)) ?_
           refine DSteps.cons (DStep.skip (by kernel_rfl)) ?_
           refine DSteps.cons (DStep.va) ?_
           refine DSteps.cons (DStep.va) ?_
           refine DSteps.cons (DStep.skip (by kernel_rfl)) ?_
           refine DSteps.cons (DStep.skip (by kernel_rfl)) ?_
           refine DSteps.cons (DStep.va) ?_
           refine DSteps.cons (DStep.va) ?_
           refine DSteps.cons (DStep.skip (by kernel_rfl)) ?_
           refine DSteps.cons (DStep.skip (by kernel_rfl)) ?_
           refine DSteps.cons (DStep.va) ?_
           exact DSteps.nl
          refine AWp.cndT ?_
          refine AWp.hz [.run 1] 123 [(0, vb false)] [] 0 ?_
          refine AWp.ret ?_
          exact leafR (r := vb false) (by unfold awakeM; (try simp only [he1_]); (try simp only [he2_]); (try simp only [he3_]); (try simp only [he4_]); (try rw [hg2]); (try rw [hg3]); (try rw [hg4]); (try rw [h5]); (try rw [h6]); (try rw [h7]); (try rw [h8]); (try rw [h9]); (try rw [h10]); first | done | kernel_rfl)
         ·
          have h10' := bne_f h10
          obtain ⟨e5_, he5_⟩ : ∃ e_, ((applyM e2_ (⟨#[115, 116, 101, 112]⟩) (⟨0, 0, ⟨#[]⟩⟩ : Val) ([(lnumberM 95)])).1)[0]? = some e_ := ⟨_, List.getElem?_eq_getElem (by omega)⟩
          refine AWp.split (!((e5_.kind == (lnumberM 100).kind) && ((e5_.n == (lnumberM 100).n) && (beqS e5_.s ((lnumberM 100).s) && true)))) (fun h11 => ?_) (fun h11 => ?_)
          ·
           refine AWp.dz [vi ((applyM e1_ (⟨#[116, 111, 103, 103, 108, 101]⟩) (⟨0, 0, ⟨#[]⟩⟩ : Val) ([(lflagM 0)])).2), vb false, vb false, .rv (.sl 3 (((applyM e1_ (⟨#[116, 111, 103, 103, 108, 101]⟩) (⟨0, 0, ⟨#[]⟩⟩ : Val) ([(lflagM 0)])).1).map Val.cells)), vi ((((applyM e1_ (⟨#[116, 111, 103, 103, 108, 101]⟩) (⟨0, 0, ⟨#[]⟩⟩ : Val) ([(lflagM 0)])).1).length : Nat) : Int), vb false, vb false, vb false, .rv (.sl 3 (((applyM e1_ (⟨#[116, 111, 103, 103, 108, 101]⟩) (⟨0, 0, ⟨#[]⟩⟩ : Val) ([(lflagM 0)])).1).map Val.cells)), .rv (.ptr (Val.cells e4_)), .agg (avs (Val.cells e4_)), .agg (avs (Val.cells (lflagM 1))), vb false, vb false, vb false, vi ((applyM e2_ (⟨#[115, 116, 101, 112]⟩) (⟨0, 0, ⟨#[]⟩⟩ : Val) ([(lnumberM 95)])).2), vb false, vb false, vb false, .rv (.sl 3 (((applyM e2_ (⟨#[115, 116, 101, 112]⟩) (⟨0, 0, ⟨#[]⟩⟩ : Val) ([(lnumberM 95)])).1).map Val.cells)), vi ((((applyM e2_ (⟨#[115, 116, 101, 112]⟩) (⟨0, 0, ⟨#[]⟩⟩ : Val) ([(lnumberM 95)])).1).length : Nat) : Int), vb false, vb false, vb false, .rv (.sl 3 (((applyM e2_ (⟨#[115, 116, 101, 112]⟩) (⟨0, 0, ⟨#[]⟩⟩ : Val) ([(lnumberM 95)])).1).map Val.cells)), .rv (.ptr (Val.cells e5_)), .agg (avs (Val.cells e5_)), .agg (avs (Val.cells (lnumberM 100))), vb true, vb true, vb true, .tuple [], .tuple [], vb true, vb true, .tuple [], .tuple [], vb true] 123 [(1, .rv (.sl 4 (l.map Cluster.cells))), (112, vb true)] [] 0 ?_ ?_
           ·
            refine DSteps.cons (DStep.va) ?_
            refine DSteps.cons ((DStep.val (v := vb (((applyM e1_ (⟨#[116, 111, 103, 103, 108, 101]⟩) (⟨0, 0, ⟨#[]⟩⟩ : Val) ([(lflagM 0)])).2) != 0)) (by kernel_rfl) (by kernel_rfl)).cast (congrArg vb h6)) ?_
            refine DSteps.cons (DStep.va) ?_
            refine DSteps.cons (DStep.va) ?_
            refine DSteps.cons (DStep.vs (by kernel_rfl) (R_lenM Val.cells ((applyM e1_ (⟨#[116, 111, 103, 103, 108, 101]⟩) (⟨0, 0, ⟨#[]⟩⟩ : Val) ([(lflagM 0)])).1) 3 rfl (by kernel_rfl) (by kernel_rfl))) ?_
            refine DSteps.cons ((DStep.val (v := vb (((((applyM e1_ (⟨#[116, 111, 103, 103, 108, 101]⟩) (⟨0, 0, ⟨#[]⟩⟩ : Val) ([(lflagM 0)])).1).length : Nat) : Int) != 1)) (by kernel_rfl) (by kernel_rfl)).cast (congrArg vb h7)) ?_
            refine DSteps.cons (DStep.va) ?_
            refine DSteps.cons (DStep.va) ?_
            refine DSteps.cons (DStep.va) ?_
            refine DSteps.cons (DStep.vs (by kernel_rfl) (R_indexAddrM Val.cells ((applyM e1_ (⟨#[116, 111, 103, 103, 108, 101]⟩) (⟨0, 0, ⟨#[]⟩⟩ : Val) ([(lflagM 0)])).1) 3 0 rfl (by kernel_rfl) (by kernel_rfl) (by kernel_rfl) he4_)) ?_
            refine DSteps.cons (DStep.va) ?_
            refine DSteps.cons (DStep.call rfl (by kernel_rfl) (by kernel_rfl) (by kernel_rfl) (args := [vi 1]) (by kernel_rfl) (by kernel_rfl) (lflagM_ok 1) (by kernel_rfl) (Nat.le_of_ble_eq_true (by kernel_rfl))) ?_
            refine DSteps.cons ((DStep.val (v := vb (!((e4_.kind == (lflagM 1).kind) && ((e4_.n == (lflagM 1).n) && (beqS e4_.s ((lflagM 1).s) && true))))) (by kernel_rfl) (by kernel_rfl)).cast (congrArg vb h8)) ?_
            refine DSteps.cons (DStep.va) ?_
            refine DSteps.cons (DStep.va) ?_
            refine DSteps.cons (DStep.va) ?_
            refine DSteps.cons ((DStep.val (v := vb (((applyM e2_ (⟨#[115, 116, 101, 112]⟩) (⟨0, 0, ⟨#[]⟩⟩ : Val) ([(lnumberM 95)])).2) != 0)) (by kernel_rfl) (by kernel_rfl)).cast (congrArg vb h9)) ?_
            refine DSteps.cons (DStep.va) ?_
            refine DSteps.cons (DStep.va) ?_
            refine DSteps.cons (DStep.va) ?_
            refine DSteps.cons (DStep.vs (by kernel_rfl) (R_lenM Val.cells ((applyM e2_ (⟨#[115, 116, 101, 112]⟩) (⟨0, 0, ⟨#[]⟩⟩ : Val) ([(lnumberM 95)])).1) 3 rfl (by kernel_rfl) (by kernel_rfl))) ?_
            refine DSteps.cons ((DStep.val (v := vb (((((applyM e2_ (⟨#[115, 116, 101, 112]⟩) (⟨0, 0, ⟨#[]⟩⟩ : Val) ([(lnumberM 95)])).1).length : Nat) : Int) != 1)) (by kernel_rfl) (by kernel_rfl)).cast (congrArg vb h10)) ?_
            refine DSteps.cons (DStep.va) ?_
            refine DSteps.cons (DStep.va) ?_
            refine DSteps.cons (DStep.va) ?_
            refine DSteps.cons (DStep.vs (by kernel_rfl) (R_indexAddrM Val.cells ((applyM e2_ (⟨#[115, 116, 101, 112]⟩) (⟨0, 0, ⟨#[]⟩⟩ : Val) ([(lnumberM 95)])).1) 3 0 rfl (by kernel_rfl) (by kernel_rfl) (by kernel_rfl) he5_)) ?_
            refine DSteps.cons (DStep.va) ?_
            refine DSteps.cons (DStep.call rfl (by kernel_rfl) (by kernel_rfl) (by kernel_rfl) (args := [vi 100]) (by kernel_rfl) (by kernel_rfl) (lnumberM_ok 100) (by kernel_rfl) (Nat.le_of_ble_eq_true (by kernel_rfl))) ?_
            refine DSteps.cons ((DStep.val (v := vb (!((e5_.kind == (lnumberM 100).kind) && ((e5_.n == (lnumberM 100).n) && (beqS e5_.s ((lnumberM 100).s) && true))))) (by kernel_rfl) (by kernel_rfl)).cast (congrArg vb h11)) ?_
            refine DSteps.cons (DStep.va) ?_
            refine DSteps.cons (DStep.va) ?_
            refine DSteps.cons (DStep.skip (by kernel_rfl)) ?_
            refine DSteps.cons (DStep.skip (by kernel_rfl)) ?_
            refine DSteps.cons (DStep.va) ?_
            refine DSteps.cons (DStep.va) ?_
            refine DSteps.cons (DStep.skip (by kernel_rfl)) ?_
            refine DSteps.cons (DStep.skip (by kernel_rfl)) ?_
            refine DSteps.cons (DStep.va) ?_
            exact DSteps.nl
           refine AWp.cndT ?_
           refine AWp.hz [.run 1] 123 [(0, vb false)] [] 0 ?_
           refine AWp.ret ?_
           exact leafR (r := vb false) (by unfold awakeM; (try simp only [he1_]); (try simp only [he2_]); (try simp only [he3_]); (try simp only [he4_]); (try simp only [he5_]); (try rw [hg2]); (try rw [hg3]); (try rw [hg4]); (try rw [h5]); (try rw [h6]); (try rw [h7]); (try rw [h8]); (try rw [h9]); (try rw [h10]); (try rw [h11]); first | done | kernel_rfl)
          ·
           refine AWp.split ((((applyM e2_ (⟨#[109, 111, 118, 101]⟩) (lnumberM 101) ([(lnumberM 5)])).2) != 2)) (fun h12 => ?_) (fun h12 => ?_)
           ·
            refine AWp.dz [vi ((applyM e1_ (⟨#[116, 111, 103, 103, 108, 101]⟩) (⟨0, 0, ⟨#[]⟩⟩ : Val) ([(lflagM 0)])).2), vb false, vb false, .rv (.sl 3 (((applyM e1_ (⟨#[116, 111, 103, 103, 108, 101]⟩) (⟨0, 0, ⟨#[]⟩⟩ : Val) ([(lflagM 0)])).1).map Val.cells)), vi ((((applyM e1_ (⟨#[116, 111, 103, 103, 108, 101]⟩) (⟨0, 0, ⟨#[]⟩⟩ : Val) ([(lflagM 0)])).1).length : Nat) : Int), vb false, vb false, vb false, .rv (.sl 3 (((applyM e1_ (⟨#[116, 111, 103, 103, 108, 101]⟩) (⟨0, 0, ⟨#[]⟩⟩ : Val) ([(lflagM 0)])).1).map Val.cells)), .rv (.ptr (Val.cells e4_)), .agg (avs (Val.cells e4_)), .agg (avs (Val.cells (lflagM 1))), vb false, vb false, vb false, vi ((applyM e2_ (⟨#[115, 116, 101, 112]⟩) (⟨0, 0, ⟨#[]⟩⟩ : Val) ([(lnumberM 95)])).2), vb false, vb false, vb false, .rv (.sl 3 (((applyM e2_ (⟨#[115, 116, 101, 112]⟩) (⟨0, 0, ⟨#[]⟩⟩ : Val) ([(lnumberM 95)])).1).map Val.cells)), vi ((((applyM e2_ (⟨#[115, 116, 101, 112]⟩) (⟨0, 0, ⟨#[]⟩⟩ : Val) ([(lnumberM 95)])).1).length : Nat) : Int), vb false, vb false, vb false, .rv (.sl 3 (((applyM e2_ (⟨#[115, 116, 101, 112]⟩) (⟨0, 0, ⟨#[]⟩⟩ : Val) ([(lnumberM 95)])).1).map Val.cells)), .rv (.ptr (Val.cells e5_)), .agg (avs (Val.cells e5_)), .agg (avs (Val.cells (lnumberM 100))), vb false, vb false, vb false, vi ((applyM e2_ (⟨#[109, 111, 118, 101]⟩) (lnumberM 101) ([(lnumberM 5)])).2), vb true, vb true, vb true, .tuple [], .tuple [], vb true] 123 [(1, .rv (.sl 4 (l.map Cluster.cells))), (112, vb true)] [] 0 ?_ ?_
            ·
             refine DSteps.cons (DStep.va) ?_
             refine DSteps.cons ((DStep.val (v := vb (((applyM e1_ (⟨#[116, 111, 103, 103, 108, 101]⟩) (⟨0, 0, ⟨#[]⟩⟩ : Val) ([(lflagM 0)])).2) != 0)) (by kernel_rfl) (by kernel_rfl)).cast (congrArg vb h6)) ?_
             refine DSteps.cons (DStep.va) ?_
             refine DSteps.cons (DStep.va) ?_
             refine DSteps.cons (DStep.vs (by kernel_rfl) (R_lenM Val.cells ((applyM e1_ (⟨#[116, 111, 103, 103, 108, 101]⟩) (⟨0, 0, ⟨#[]⟩⟩ : Val) ([(lflagM 0)])).1) 3 rfl (by kernel_rfl) (by kernel_rfl))) ?_
             refine DSteps.cons ((DStep.val (v := vb (((((applyM e1_ (⟨#[116, 111, 103, 103, 108, 101]⟩) (⟨0, 0, ⟨#[]⟩⟩ : Val) ([(lflagM 0)])).1).length : Nat) : Int) != 1)) (by kernel_rfl) (by kernel_rfl)).cast (congrArg vb h7)) ?_
             refine DSteps.cons (DStep.va) ?_
             refine DSteps.cons (DStep.va) ?_
             refine DSteps.cons (DStep.va) ?_
             refine DSteps.cons (DStep.vs (by kernel_rfl) (R_indexAddrM Val.cells ((applyM e1_ (⟨#[116, 111, 103, 103, 108, 101]⟩) (⟨0, 0, ⟨#[]⟩⟩ : Val) ([(lflagM 0)])).1) 3 0 rfl (by kernel_rfl) (by kernel_rfl) (by kernel_rfl) he4_)) ?_
             refine DSteps.cons (DStep.va) ?_
             refine DSteps.cons (DStep.call rfl (by kernel_rfl) (by kernel_rfl) (by kernel_rfl) (args := [vi 1]) (by kernel_rfl) (by kernel_rfl) (lflagM_ok 1) (by kernel_rfl) (Nat.le_of_ble_eq_true (by kernel_rfl))) ?_
             refine DSteps.cons ((DStep.val (v := vb (!((e4_.kind == (lflagM 1).kind) && ((e4_.n == (lflagM 1).n) && (beqS e4_.s ((lflagM 1).s) && true))))) (by kernel_rfl) (by kernel_rfl)).cast (congrArg vb h8)) ?_
             refine DSteps.cons (DStep.va) ?_
             refine DSteps.cons (DStep.va) ?_
             refine DSteps.cons (DStep.va) ?_
             refine DSteps.cons ((DStep.val (v := vb (((applyM e2_ (⟨#[115, 116, 101, 112]⟩) (⟨0, 0, ⟨#[]⟩⟩ : Val) ([(lnumberM 95)])).2) != 0)) (by kernel_rfl) (by kernel_rfl)).cast (congrArg vb h9)) ?_
             refine DSteps.cons (DStep.va) ?_
             refine DSteps.cons (DStep.va) ?_
             refine DSteps.cons (DStep.va) ?_
             refine DSteps.cons (DStep.vs (by kernel_rfl) (R_lenM Val.cells ((applyM e2_ (⟨#[115, 116, 101, 112]⟩) (⟨0, 0, ⟨#[]⟩⟩ : Val) ([(lnumberM 95)])).1) 3 rfl (by kernel_rfl) (by kernel_rfl))) ?_
             refine DSteps.cons ((DStep.val (v := vb (((((applyM e2_ (⟨#[115, 116, 101, 112]⟩) (⟨0, 0, ⟨#[]⟩⟩ : Val) ([(lnumberM 95)])).1).length : Nat) : Int) != 1)) (by kernel_rfl) (by kernel_rfl)).cast (congrArg vb h10)) ?_
             refine DSteps.cons (DStep.va) ?_
             refine DSteps.cons (DStep.va) ?_
             refine DSteps.cons (DStep.va) ?_
             refine DSteps.cons (DStep.vs (by kernel_rfl) (R_indexAddrM Val.cells ((applyM e2_ (⟨#[115, 116, 101, 112]⟩) (⟨0, 0, ⟨#[]⟩⟩ : Val) ([(lnumberM 95)])).1) 3 0 rfl (by kernel_rfl) (by kernel_rfl) (by kernel_rfl) he5_)) ?_
             refine DSteps.cons (DStep.va) ?_
             refine DSteps.cons (DStep.call rfl (by kernel_rfl) (by kernel_rfl) (by kernel_rfl) (args := [vi 100]) (by kernel_rfl) (by kernel_rfl) (lnumberM_ok 100) (by kernel_rfl) (Nat.le_of_ble_eq_true (by kernel_rfl))) ?_
             refine DSteps.cons ((DStep.val (v := vb (!((e5_.kind == (lnumberM 100).kind) && ((e5_.n == (lnumberM 100).n) && (beqS e5_.s ((lnumberM 100).s) && true))))) (by kernel_rfl) (by kernel_rfl)).cast (congrArg vb h11)) ?_
             refine DSteps.cons (DStep.va) ?_
             refine DSteps.cons (DStep.va) ?_
             refine DSteps.cons (DStep.va) ?_
             refine DSteps.cons ((DStep.val (v := vb (((applyM e2_ (⟨#[109, 111, 118, 101]⟩) (lnumberM 101) ([(lnumberM 5)])).2) != 2)) (by kernel_rfl) (by kernel_rfl)).cast (congrArg vb h12)) ?_
             refine DSteps.cons (DStep.va) ?_
             refine DSteps.cons (DStep.va) ?_
             refine DSteps.cons (DStep.skip (by kernel_rfl)) ?_
             refine DSteps.cons (DStep.skip (by kernel_rfl)) ?_
             refine DSteps.cons (DStep.va) ?_
             exact DSteps.nl
            refine AWp.cndT ?_
            refine AWp.hz [.run 1] 123 [(0, vb false)] [] 0 ?_
            refine AWp.ret ?_
            exact leafR (r := vb false) (by unfold awakeM; (try simp only [he1_]); (try simp only [he2_]); (try simp only [he3_]); (try simp only [he4_]); (try simp only [he5_]); (try rw [hg2]); (try rw [hg3]); (try rw [hg4]); (try rw [h5]); (try rw [h6]); (try rw [h7]); (try rw [h8]); (try rw [h9]); (try rw [h10]); (try rw [h11]); (try rw [h12]); first | done | kernel_rfl)
           ·
            refine AWp.dz [vi ((applyM e1_ (⟨#[116, 111, 103, 103, 108, 101]⟩) (⟨0, 0, ⟨#[]⟩⟩ : Val) ([(lflagM 0)])).2), vb false, vb false, .rv (.sl 3 (((applyM e1_ (⟨#[116, 111, 103, 103, 108, 101]⟩) (⟨0, 0, ⟨#[]⟩⟩ : Val) ([(lflagM 0)])).1).map Val.cells)), vi ((((applyM e1_ (⟨#[116, 111, 103, 103, 108, 101]⟩) (⟨0, 0, ⟨#[]⟩⟩ : Val) ([(lflagM 0)])).1).length : Nat) : Int), vb false, vb false, vb false, .rv (.sl 3 (((applyM e1_ (⟨#[116, 111, 103, 103, 108, 101]⟩) (⟨0, 0, ⟨#[]⟩⟩ : Val) ([(lflagM 0)])).1).map Val.cells)), .rv (.ptr (Val.cells e4_)), .agg (avs (Val.cells e4_)), .agg (avs (Val.cells (lflagM 1))), vb false, vb false, vb false, vi ((applyM e2_ (⟨#[115, 116, 101, 112]⟩) (⟨0, 0, ⟨#[]⟩⟩ : Val) ([(lnumberM 95)])).2), vb false, vb false, vb false, .rv (.sl 3 (((applyM e2_ (⟨#[115, 116, 101, 112]⟩) (⟨0, 0, ⟨#[]⟩⟩ : Val) ([(lnumberM 95)])).1).map Val.cells)), vi ((((applyM e2_ (⟨#[115, 116, 101, 112]⟩) (⟨0, 0, ⟨#[]⟩⟩ : Val) ([(lnumberM 95)])).1).length : Nat) : Int), vb false, vb false, vb false, .rv (.sl 3 (((applyM e2_ (⟨#[115, 116, 101, 112]⟩) (⟨0, 0, ⟨#[]⟩⟩ : Val) ([(lnumberM 95)])).1).map Val.cells)), .rv (.ptr (Val.cells e5_)), .agg (avs (Val.cells e5_)), .agg (avs (Val.cells (lnumberM 100))), vb false, vb false, vb false, vi ((applyM e2_ (⟨#[109, 111, 118, 101]⟩) (lnumberM 101) ([(lnumberM 5)])).2), vb false, vb false, vb false, vi ((applyM e3_ (⟨#[106, 97, 109]⟩) (⟨0, 0, ⟨#[]⟩⟩ : Val) ([(lflagM 0)])).2), vb (((applyM e3_ (⟨#[106, 97, 109]⟩) (⟨0, 0, ⟨#[]⟩⟩ : Val) ([(lflagM 0)])).2) != 8), vb (((applyM e3_ (⟨#[106, 97, 109]⟩) (⟨0, 0, ⟨#[]⟩⟩ : Val) ([(lflagM 0)])).2) != 8)] 123 [(1, .rv (.sl 4 (l.map Cluster.cells))), (112, vb (((applyM e3_ (⟨#[106, 97, 109]⟩) (⟨0, 0, ⟨#[]⟩⟩ : Val) ([(lflagM 0)])).2) != 8))] [] 0 ?_ ?_
            ·
             refine DSteps.cons (DStep.va) ?_
             refine DSteps.cons ((DStep.val (v := vb (((applyM e1_ (⟨#[116, 111, 103, 103, 108, 101]⟩) (⟨0, 0, ⟨#[]⟩⟩ : Val) ([(lflagM 0)])).2) != 0)) (by kernel_rfl) (by kernel_rfl)).cast (congrArg vb h6)) ?_
             refine DSteps.cons (DStep.va) ?_
             refine DSteps.cons (DStep.va) ?_
             refine DSteps.cons (DStep.vs (by kernel_rfl) (R_lenM Val.cells ((applyM e1_ (⟨#[116, 111, 103, 103, 108, 101]⟩) (⟨0, 0, ⟨#[]⟩⟩ : Val) ([(lflagM 0)])).1) 3 rfl (by kernel_rfl) (by kernel_rfl))) ?_
             refine DSteps.cons ((DStep.val (v := vb (((((applyM e1_ (⟨#[116, 111, 103, 103, 108, 101]⟩) (⟨0, 0, ⟨#[]⟩⟩ : Val) ([(lflagM 0)])).1).length : Nat) : Int) != 1)) (by kernel_rfl) (by kernel_rfl)).cast (congrArg vb h7)) ?_
             refine DSteps.cons (DStep.va) ?_
             refine DSteps.cons (DStep.va) ?_
             refine DSteps.cons (DStep.va) ?_
             refine DSteps.cons (DStep.vs (by kernel_rfl) (R_indexAddrM Val.cells ((applyM e1_ (⟨#[116, 111, 103, 103, 108, 101]⟩) (⟨0, 0, ⟨#[]⟩⟩ : Val) ([(lflagM 0)])).1) 3 0 rfl (by kernel_rfl) (by kernel_rfl) (by kernel_rfl) he4_)) ?_
             refine DSteps.cons (DStep.va) ?_
             refine DSteps.cons (DStep.call rfl (by kernel_rfl) (by kernel_rfl) (by kernel_rfl) (args := [vi 1]) (by kernel_rfl) (by kernel_rfl) (lflagM_ok 1) (by kernel_rfl) (Nat.le_of_ble_eq_true (by kernel_rfl))) ?_
             refine DSteps.cons ((DStep.val (v := vb (!((e4_.kind == (lflagM 1).kind) && ((e4_.n == (lflagM 1).n) && (beqS e4_.s ((lflagM 1).s) && true))))) (by kernel_rfl) (by kernel_rfl)).cast (congrArg vb h8)) ?_
             refine DSteps.cons (DStep.va) ?_
             refine DSteps.cons (DStep.va) ?_
             refine DSteps.cons (DStep.va) ?_
             refine DSteps.cons ((DStep.val (v := vb (((applyM e2_ (⟨#[115, 116, 101, 112]⟩) (⟨0, 0, ⟨#[]⟩⟩ : Val) ([(lnumberM 95)])).2) != 0)) (by kernel_rfl) (by kernel_rfl)).cast (congrArg vb h9)) ?_
             refine DSteps.cons (DStep.va) ?_
             refine DSteps.cons (DStep.va) ?_
             refine DSteps.cons (DStep.va) ?_
             refine DSteps.cons (DStep.vs (by kernel_rfl) (R_lenM Val.cells ((applyM e2_ (⟨#[115, 116, 101, 112]⟩) (⟨0, 0, ⟨#[]⟩⟩ : Val) ([(lnumberM 95)])).1) 3 rfl (by kernel_rfl) (by kernel_rfl))) ?_
             refine DSteps.cons ((DStep.val (v := vb (((((applyM e2_ (⟨#[115, 116, 101, 112]⟩) (⟨0, 0, ⟨#[]⟩⟩ : Val) ([(lnumberM 95)])).1).length : Nat) : Int) != 1)) (by kernel_rfl) (by kernel_rfl)).cast (congrArg vb h10)) ?_
             refine DSteps.cons (DStep.va) ?_
             refine DSteps.cons (DStep.va) ?_
             refine DSteps.cons (DStep.va) ?_
             refine DSteps.cons (DStep.vs (by kernel_rfl) (R_indexAddrM Val.cells ((applyM e2_ (⟨#[115, 116, 101, 112]⟩) (⟨0, 0, ⟨#[]⟩⟩ : Val) ([(lnumberM 95)])).1) 3 0 rfl (by kernel_rfl) (by kernel_rfl) (by kernel_rfl) he5_)) ?_
             refine DSteps.cons (DStep.va) ?_
             refine DSteps.cons (DStep.call rfl (by kernel_rfl) (by kernel_rfl) (by kernel_rfl) (args := [vi 100]) (by kernel_rfl) (by kernel_rfl) (lnumberM_ok 100) (by kernel_rfl) (Nat.le_of_ble_eq_true (by kernel_rfl))) ?_
             refine DSteps.cons ((DStep.val (v := vb (!((e5_.kind == (lnumberM 100).kind) && ((e5_.n == (lnumberM 100).n) && (beqS e5_.s ((lnumberM 100).s) && true))))) (by kernel_rfl) (by kernel_rfl)).cast (congrArg vb h11)) ?_
             refine DSteps.cons (DStep.va) ?_
             refine DSteps.cons (DStep.va) ?_
             refine DSteps.cons (DStep.va) ?_
             refine DSteps.cons ((DStep.val (v := vb (((applyM e2_ (⟨#[109, 111, 118, 101]⟩) (lnumberM 101) ([(lnumberM 5)])).2) != 2)) (by kernel_rfl) (by kernel_rfl)).cast (congrArg vb h12)) ?_
             refine DSteps.cons (DStep.va) ?_
             refine DSteps.cons (DStep.va) ?_
             refine DSteps.cons (DStep.va) ?_
             refine DSteps.cons (DStep.va) ?_
             refine DSteps.cons (DStep.va) ?_
             exact DSteps.nl
            refine AWp.cnd ((((applyM e3_ (⟨#[106, 97, 109]⟩) (⟨0, 0, ⟨#[]⟩⟩ : Val) ([(lflagM 0)])).2) != 8)) (fun h13 => ?_) (fun h13 => ?_)
            ·
             refine AWp.hz [.run 1] 123 [(0, vb false)] [] 0 ?_
             refine AWp.ret ?_
             exact leafR (r := vb false) (by unfold awakeM; (try simp only [he1_]); (try simp only [he2_]); (try simp only [he3_]); (try simp only [he4_]); (try simp only [he5_]); (try rw [hg2]); (try rw [hg3]); (try rw [hg4]); (try rw [h5]); (try rw [h6]); (try rw [h7]); (try rw [h8]); (try rw [h9]); (try rw [h10]); (try rw [h11]); (try rw [h12]); (try rw [h13]); first | done | kernel_rfl)
            ·
             refine AWp.skip ?_
             refine AWp.join (Z 123 [(0, vb ((checkM (⟨⟨#[79, 110]⟩, [], [], []⟩ : Cluster) == 10) && (checkM e3_ == 0)))] [] 0) ?_ ?_
             ·
              refine AWp.region ?_
              refine AOps.hg [.run 1, .nils 113 [none, some 7, some 9, some 1], .call 13 [.agg [vs (⟨#[79, 110]⟩), .rv (.sl 7 (([]).map Attr.cells)), .rv (.sl 9 (([]).map Command.cells)), .rv (.sl 1 (([]).map strC))]] (vi (checkM (⟨⟨#[79, 110]⟩, [], [], []⟩ : Cluster))) [] 0 (checkM_ok (⟨⟨#[79, 110]⟩, [], [], []⟩ : Cluster) (by first | assumption | exact std_fit _ (List.mem_of_getElem? (by assumption)) | exact fit_s1 (by assumption) | exact std_fit | exact fun c hc => std_fit c (List.mem_of_mem_take (List.mem_of_mem_drop hc)) | exact Nat.le_trans (apply_len _ _ _ _) (by omega) | exact parts_fit (by assumption) | exact parts_fit (by assumption) _ (List.mem_of_getElem? (by assumption)) | (simp; done) | exact ⟨by simp, by simp⟩ | exact hw _ (List.mem_of_getElem? (by assumption)) | exact hw.1 _ (List.mem_of_getElem? (by assumption)) | exact (hw.2 _ (List.mem_of_getElem? (by assumption))).1 | exact (hw.2 _ (List.mem_of_getElem? (by assumption))).2 | omega | exact fit_take hw _)), .run 2] ((checkM (⟨⟨#[79, 110]⟩, [], [], []⟩ : Cluster) == 10)) 123 (fun b_ => [(1, .rv (.sl 4 (l.map Cluster.cells))), (116, vb b_)]) [] 0 (fun hg14 => ?_) (fun hg14 => ?_)
              ·
               refine AOps.he [.run 1, .idx Cluster.cells l 4 2 e3_ he3_, .run 1, .call 13 [.agg (avs (Cluster.cells e3_))] (vi (checkM e3_)) [] 0 (checkM_ok e3_ (by first | assumption | exact std_fit _ (List.mem_of_getElem? (by assumption)) | exact fit_s1 (by assumption) | exact std_fit | exact fun c hc => std_fit c (List.mem_of_mem_take (List.mem_of_mem_drop hc)) | exact Nat.le_trans (apply_len _ _ _ _) (by omega) | exact parts_fit (by assumption) | exact parts_fit (by assumption) _ (List.mem_of_getElem? (by assumption)) | (simp; done) | exact ⟨by simp, by simp⟩ | exact hw _ (List.mem_of_getElem? (by assumption)) | exact hw.1 _ (List.mem_of_getElem? (by assumption)) | exact (hw.2 _ (List.mem_of_getElem? (by assumption))).1 | exact (hw.2 _ (List.mem_of_getElem? (by assumption))).2 | omega | exact fit_take hw _)), .run 3] 123 [(0, vb (checkM e3_ == 0))] [] 0 ?_
               exact leZ (by rw [hg14]; first | done | kernel_rfl)
              ·
               refine AOps.he [.run 7] 123 [(0, vb false)] [] 0 ?_
               exact leZ (by rw [hg14]; first | done | kernel_rfl)
             ·
              refine AWp.ret ?_
              exact leafR (r := vb ((checkM (⟨⟨#[79, 110]⟩, [], [], []⟩ : Cluster) == 10) && (checkM e3_ == 0))) (by unfold awakeM; (try simp only [he1_]); (try simp only [he2_]); (try simp only [he3_]); (try simp only [he4_]); (try simp only [he5_]); (try rw [hg2]); (try rw [hg3]); (try rw [hg4]); (try rw [h5]); (try rw [h6]); (try rw [h7]); (try rw [h8]); (try rw [h9]); (try rw [h10]); (try rw [h11]); (try rw [h12]); (try rw [h13]); first | done | kernel_rfl)
end Go.Proofs.YtelohjccoimnaaaDoor
