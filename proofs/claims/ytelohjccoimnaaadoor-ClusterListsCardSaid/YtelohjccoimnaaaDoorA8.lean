/- Commands are executed: the contracts. -/
import Derived.Test.YtelohjccoimnaaaDoorA7
import Derived.Test.YtelohjccoimnaaaDoorPa
namespace Go.Proofs.YtelohjccoimnaaaDoor
open Go Go.Av Go.Hh Go.Proofs
set_option maxRecDepth 100000
set_option maxHeartbeats 4000000
def cloneVR (l : List Val) : List Val :=
  l
theorem cloneVR_ok (l : List Val) (hw : l.length ≤ 1000000) :
 ACalls Tryd.prog G_ 46 [.rv (.sl 3 (l.map Val.cells))] [] 0 (fun r τ => r = .sl 0 ∧ τ = [(0, .row false 44 3 ((cloneVR l).map Val.cells))]) := by
 refine ACalls.row0 (ps := []) rfl false (ACalls.body Tryd.func46 rfl 8 [(0, .rv (.sl 3 (l.map Val.cells)))] ?_)
 refine AWp.hz [.run 1] 8 [(0, .rv (.sl 3 (l.map Val.cells)))] [] 0 ?_
 refine AWp.seq ?_
 refine AWp.rg ?_
 refine AOps.hz [.run 1] 8 [(0, .rv (.sl 3 (l.map Val.cells))), (3, .rv (.sl 3 (l.map Val.cells)))] [] 0 ?_
 refine AOps.nilTest Val.cells l 3 rfl rfl (e := 44) (by kernel_rfl) (by kernel_rfl) (fun nb1 hnb1 => ?_)
 refine AOps.he [] 8 [(0, .rv (.sl 3 (l.map Val.cells))), (4, vb nb1)] [] 0 ?_
 refine AWp.cnd (nb1) (fun h2 => ?_) (fun h2 => ?_)
 ·
  refine AWp.hz [.run 1] 8 [(2, .rv (.v (.slice none 0 0)))] [] 0 ?_
  refine AWp.nrow 2 44 3 ?_
  refine AWp.ret ?_
  exact leafRow (k := 0) (es := ([])) (by show _ = List.map Val.cells (cloneVR l); unfold cloneVR; (try rw [hnb1 h2]); first | done | kernel_rfl)
 ·
  refine AWp.skip ?_
  refine AWp.hz [.row 44 3 [], .run 1, .app Val.cells ([]) l 0 44 3 32 (apSz (by simp; omega)), .run 1] 8 [(2, .sl 0)] [(0, .row false 44 3 (l.map Val.cells))] 1 ?_
  refine AWp.ret ?_
  exact leafRow (k := 0) (es := (l.map Val.cells)) (by show _ = List.map Val.cells (cloneVR l); unfold cloneVR; first | done | kernel_rfl)
def applyM_B1 (c : Cluster) (command : ByteArray) (param : Val) (vals : List Val) (k1_ : Nat) : Option (List Val × Int) :=
  (match (vals)[k1_]? with | some e1_ => (match (c.attrs)[k1_]? with | some e2_ => (bif (fitsM e2_ e1_ != 0) then some ([], 1) else none) | none => none) | none => none)
def applyM_L1 (c : Cluster) (command : ByteArray) (param : Val) (vals : List Val) : Option (List Val × Int) := scanN (applyM_B1 c command param vals) 0 vals.length
def applyM_B3 (c : Cluster) (command : ByteArray) (param : Val) (vals : List Val) (e3_ : Effect) (k3_ : Nat) (x_ : (List Val)) : (List Val) :=
  match x_ with
  | (a3_0) => (match (c.attrs)[k3_]? with | some e4_ => (bif beqS e4_.name e3_.attr then (match (a3_0)[k3_]? with | some e6_ => ((a3_0.set k3_ (afterM e3_ e4_ param e6_))) | none => x_) else (a3_0)) | none => x_)
def applyM_L3 (c : Cluster) (command : ByteArray) (param : Val) (vals : List Val) (e3_ : Effect) (x_ : (List Val)) : (List Val) := iterN (applyM_B3 c command param vals e3_) 0 c.attrs.length x_
def applyM_B2 (c : Cluster) (command : ByteArray) (param : Val) (vals : List Val) (k2_ : Nat) (x_ : (List Val)) : (List Val) :=
  match x_ with
  | (a2_0) => (match (((commandM c command).1).effects)[k2_]? with | some e3_ => ((applyM_L3 c command param vals e3_ (a2_0))) | none => x_)
def applyM_L2 (c : Cluster) (command : ByteArray) (param : Val) (vals : List Val) (x_ : (List Val)) : (List Val) := iterN (applyM_B2 c command param vals) 0 ((((commandM c command).1).effects).length) x_
def applyM (c : Cluster) (command : ByteArray) (param : Val) (vals : List Val) : List Val × Int :=
  (bif (checkM c != 0) then ([], checkM c) else (bif !((commandM c command).2) then ([], 8) else (bif (acceptsM ((commandM c command).1) param != 0) then ([], acceptsM ((commandM c command).1) param) else (bif (((vals.length : Nat) : Int) != ((c.attrs.length : Nat) : Int)) then ([], 1) else ((applyM_L1 c command param vals).getD ((applyM_L2 c command param vals (vals)), 0))))))
theorem applyM_ok (c : Cluster) (command : ByteArray) (param : Val) (vals : List Val) (hw : Fit c) (hv : vals.length ≤ 1000000) :
 ACalls Tryd.prog G_ 21 [.agg (avs (Cluster.cells c)), vs command, .agg (avs (Val.cells param)), .rv (.sl 3 (vals.map Val.cells))] [] 0 (fun r τ => r = .tuple [.rv (.sl 3 (((applyM c command param vals).1).map Val.cells)), vi ((applyM c command param vals).2)] ∧ τ = []) := by
 refine ACalls.body Tryd.func21 rfl 98 [(0, .agg (avs (Cluster.cells c))), (1, vs command), (2, .agg (avs (Val.cells param))), (3, .rv (.sl 3 (vals.map Val.cells)))] ?_
 refine AWp.hz [.run 4] 98 [(1, vs command), (3, .rv (.sl 3 (vals.map Val.cells))), (4, .ptr 0 0), (6, .ptr 1 0)] [(1, .box 44 (avs (Val.cells param))), (0, .box 26 (avs (Cluster.cells c)))] 2 ?_
 refine AWp.seq ?_
 refine AWp.hz [.run 1, .call 13 [.agg (avs (Cluster.cells c))] (vi (checkM c)) [] 0 (checkM_ok c (by first | assumption | exact std_fit _ (List.mem_of_getElem? (by assumption)) | exact fit_s1 (by assumption) | exact std_fit | exact fun c hc => std_fit c (List.mem_of_mem_take (List.mem_of_mem_drop hc)) | exact Nat.le_trans (apply_len _ _ _ _) (by omega) | exact parts_fit (by assumption) | exact parts_fit (by assumption) _ (List.mem_of_getElem? (by assumption)) | (simp; done) | exact ⟨by simp, by simp⟩ | exact hw _ (List.mem_of_getElem? (by assumption)) | exact hw.1 _ (List.mem_of_getElem? (by assumption)) | exact (hw.2 _ (List.mem_of_getElem? (by assumption))).1 | exact (hw.2 _ (List.mem_of_getElem? (by assumption))).2 | omega | exact fit_take hw _)), .run 1] 98 [(1, vs command), (3, .rv (.sl 3 (vals.map Val.cells))), (4, .ptr 0 0), (6, .ptr 1 0), (10, vi (checkM c))] [(1, .box 44 (avs (Val.cells param))), (0, .box 26 (avs (Cluster.cells c)))] 2 ?_
 refine AWp.hz [.run 2] 98 [(1, vs command), (3, .rv (.sl 3 (vals.map Val.cells))), (4, .ptr 0 0), (6, .ptr 1 0), (10, vi (checkM c)), (24, vb (checkM c != 0))] [(1, .box 44 (avs (Val.cells param))), (0, .box 26 (avs (Cluster.cells c)))] 2 ?_
 refine AWp.cnd ((checkM c != 0)) (fun h1 => ?_) (fun h1 => ?_)
 ·
  refine AWp.hz [.run 3] 98 [(8, .rv (.v (.slice none 0 0))), (9, vi (checkM c))] [] 2 ?_
  refine AWp.le (Le.nils (s' := Z 98 [(8, .rv (.sl 3 (([]).map Val.cells))), (9, vi (checkM c))] [] 2) 8 [some 3] (by kernel_rfl)) ?_
  refine AWp.ret ?_
  exact leafR (r := .tuple [.rv (.sl 3 (([]).map Val.cells)), vi (checkM c)]) (by show (.tuple [.rv (.sl 3 (([]).map Val.cells)), vi (checkM c)] : AV) = .tuple [.rv (.sl 3 (((applyM c command param vals).1).map Val.cells)), vi ((applyM c command param vals).2)]; unfold applyM; (try rw [h1]); first | done | kernel_rfl)
 ·
  refine AWp.skip ?_
  refine AWp.hz [.run 2, .call 18 [.agg (avs (Cluster.cells c)), vs command] (.tuple [.agg (avs (Command.cells ((commandM c command).1))), vb ((commandM c command).2)]) [] 0 (commandM_ok c command (by first | assumption | exact std_fit _ (List.mem_of_getElem? (by assumption)) | exact fit_s1 (by assumption) | exact std_fit | exact fun c hc => std_fit c (List.mem_of_mem_take (List.mem_of_mem_drop hc)) | exact Nat.le_trans (apply_len _ _ _ _) (by omega) | exact parts_fit (by assumption) | exact parts_fit (by assumption) _ (List.mem_of_getElem? (by assumption)) | (simp; done) | exact ⟨by simp, by simp⟩ | exact hw _ (List.mem_of_getElem? (by assumption)) | exact hw.1 _ (List.mem_of_getElem? (by assumption)) | exact (hw.2 _ (List.mem_of_getElem? (by assumption))).1 | exact (hw.2 _ (List.mem_of_getElem? (by assumption))).2 | omega | exact fit_take hw _)), .run 6] 98 [(3, .rv (.sl 3 (vals.map Val.cells))), (4, .ptr 0 0), (6, .ptr 1 0), (11, .ptr 2 0), (12, vb ((commandM c command).2))] [(2, .box 38 (avs (Command.cells ((commandM c command).1)))), (1, .box 44 (avs (Val.cells param))), (0, .box 26 (avs (Cluster.cells c)))] 3 ?_
  refine AWp.seq ?_
  refine AWp.hz [.run 2] 98 [(3, .rv (.sl 3 (vals.map Val.cells))), (4, .ptr 0 0), (6, .ptr 1 0), (11, .ptr 2 0), (33, vb (!((commandM c command).2)))] [(2, .box 38 (avs (Command.cells ((commandM c command).1)))), (1, .box 44 (avs (Val.cells param))), (0, .box 26 (avs (Cluster.cells c)))] 3 ?_
  refine AWp.cnd (!((commandM c command).2)) (fun h2 => ?_) (fun h2 => ?_)
  ·
   refine AWp.hz [.run 2] 98 [(8, .rv (.v (.slice none 0 0))), (9, vi 8)] [] 3 ?_
   refine AWp.le (Le.nils (s' := Z 98 [(8, .rv (.sl 3 (([]).map Val.cells))), (9, vi 8)] [] 3) 8 [some 3] (by kernel_rfl)) ?_
   refine AWp.ret ?_
   exact leafR (r := .tuple [.rv (.sl 3 (([]).map Val.cells)), vi 8]) (by show (.tuple [.rv (.sl 3 (([]).map Val.cells)), vi 8] : AV) = .tuple [.rv (.sl 3 (((applyM c command param vals).1).map Val.cells)), vi ((applyM c command param vals).2)]; unfold applyM; (try rw [h1]); (try rw [h2]); first | done | kernel_rfl)
  ·
   refine AWp.skip ?_
   refine AWp.seq ?_
   refine AWp.hz [.run 2, .call 45 [.agg (avs (Command.cells ((commandM c command).1))), .agg (avs (Val.cells param))] (vi (acceptsM ((commandM c command).1) param)) [] 0 (acceptsM_ok ((commandM c command).1) param), .run 1] 98 [(3, .rv (.sl 3 (vals.map Val.cells))), (4, .ptr 0 0), (6, .ptr 1 0), (11, .ptr 2 0), (13, vi (acceptsM ((commandM c command).1) param))] [(2, .box 38 (avs (Command.cells ((commandM c command).1)))), (1, .box 44 (avs (Val.cells param))), (0, .box 26 (avs (Cluster.cells c)))] 3 ?_
   refine AWp.hz [.run 2] 98 [(3, .rv (.sl 3 (vals.map Val.cells))), (4, .ptr 0 0), (6, .ptr 1 0), (11, .ptr 2 0), (13, vi (acceptsM ((commandM c command).1) param)), (38, vb (acceptsM ((commandM c command).1) param != 0))] [(2, .box 38 (avs (Command.cells ((commandM c command).1)))), (1, .box 44 (avs (Val.cells param))), (0, .box 26 (avs (Cluster.cells c)))] 3 ?_
   refine AWp.cnd ((acceptsM ((commandM c command).1) param != 0)) (fun h3 => ?_) (fun h3 => ?_)
   ·
    refine AWp.hz [.run 3] 98 [(8, .rv (.v (.slice none 0 0))), (9, vi (acceptsM ((commandM c command).1) param))] [] 3 ?_
    refine AWp.le (Le.nils (s' := Z 98 [(8, .rv (.sl 3 (([]).map Val.cells))), (9, vi (acceptsM ((commandM c command).1) param))] [] 3) 8 [some 3] (by kernel_rfl)) ?_
    refine AWp.ret ?_
    exact leafR (r := .tuple [.rv (.sl 3 (([]).map Val.cells)), vi (acceptsM ((commandM c command).1) param)]) (by show (.tuple [.rv (.sl 3 (([]).map Val.cells)), vi (acceptsM ((commandM c command).1) param)] : AV) = .tuple [.rv (.sl 3 (((applyM c command param vals).1).map Val.cells)), vi ((applyM c command param vals).2)]; unfold applyM; (try rw [h1]); (try rw [h2]); (try rw [h3]); first | done | kernel_rfl)
   ·
    refine AWp.skip ?_
    refine AWp.seq ?_
    refine AWp.hzl [.run 1, .len Val.cells vals 3, .run 2, .len Attr.cells c.attrs 7, .run 1] 98 [(3, .rv (.sl 3 (vals.map Val.cells))), (4, .ptr 0 0), (6, .ptr 1 0), (11, .ptr 2 0), (45, vb (((vals.length : Nat) : Int) != ((c.attrs.length : Nat) : Int)))] [(2, .box 38 (avs (Command.cells ((commandM c command).1)))), (1, .box 44 (avs (Val.cells param))), (0, .box 26 (avs (Cluster.cells c)))] 3 (fun hl => ?_)
    obtain ⟨hn4, hn5, -⟩ := hl
    refine AWp.cnd ((((vals.length : Nat) : Int) != ((c.attrs.length : Nat) : Int))) (fun h6 => ?_) (fun h6 => ?_)
    ·
     have h6' := bne_t h6
     refine AWp.hz [.run 2] 98 [(8, .rv (.v (.slice none 0 0))), (9, vi 1)] [] 3 ?_
     refine AWp.le (Le.nils (s' := Z 98 [(8, .rv (.sl 3 (([]).map Val.cells))), (9, vi 1)] [] 3) 8 [some 3] (by kernel_rfl)) ?_
     refine AWp.ret ?_
     exact leafR (r := .tuple [.rv (.sl 3 (([]).map Val.cells)), vi 1]) (by show (.tuple [.rv (.sl 3 (([]).map Val.cells)), vi 1] : AV) = .tuple [.rv (.sl 3 (((applyM c command param vals).1).map Val.cells)), vi ((applyM c command param vals).2)]; unfold applyM; (try rw [h1]); (try rw [h2]); (try rw [h3]); (try rw [h6]); first | done | kernel_rfl)
    ·
     have h6' := bne_f h6
     refine AWp.skip ?_
     refine AWp.seq ?_
     refine AWp.hzl [.run 1, .len Val.cells vals 3, .run 1] 98 [(3, .rv (.sl 3 (vals.map Val.cells))), (4, .ptr 0 0), (6, .ptr 1 0), (11, .ptr 2 0), (46, .rv (.sl 3 (vals.map Val.cells))), (47, vi ((vals.length : Nat) : Int)), (48, vi 0)] [(2, .box 38 (avs (Command.cells ((commandM c command).1)))), (1, .box 44 (avs (Val.cells param))), (0, .box 26 (avs (Cluster.cells c)))] 3 (fun hl => ?_)
     obtain ⟨hn7, -⟩ := hl
     refine AWp.block ?_
     refine AWp.loop (ι := Nat) (fun k1_ => Z 98 [(3, .rv (.sl 3 (vals.map Val.cells))), (4, .ptr 0 0), (6, .ptr 1 0), (11, .ptr 2 0), (46, .rv (.sl 3 (vals.map Val.cells))), (47, vi ((vals.length : Nat) : Int)), (48, vi ((k1_ : Nat) : Int))] [(2, .box 38 (avs (Command.cells ((commandM c command).1)))), (1, .box 44 (avs (Val.cells param))), (0, .box 26 (avs (Cluster.cells c)))] 3) (fun k1_ => k1_ ≤ vals.length ∧ applyM_L1 c command param vals = scanN (applyM_B1 c command param vals) k1_ (vals.length - k1_)) (fun k1_ => vals.length - k1_) 0 leZ ⟨Nat.zero_le _, rfl⟩ ?_
     intro k1_ ⟨hk1_, hs1_⟩
     refine AWp.hz [.run 1] 98 [(3, .rv (.sl 3 (vals.map Val.cells))), (4, .ptr 0 0), (6, .ptr 1 0), (11, .ptr 2 0), (46, .rv (.sl 3 (vals.map Val.cells))), (47, vi ((vals.length : Nat) : Int)), (48, vi ((k1_ : Nat) : Int)), (49, vb (decide (((k1_ : Nat) : Int) < ((vals.length : Nat) : Int))))] [(2, .box 38 (avs (Command.cells ((commandM c command).1)))), (1, .box 44 (avs (Val.cells param))), (0, .box 26 (avs (Cluster.cells c)))] 3 ?_
     refine AWp.seq ?_
     refine AWp.cnd (decide (((k1_ : Nat) : Int) < ((vals.length : Nat) : Int))) (fun h8 => ?_) (fun h8 => ?_)
     ·
      have h8' := of_decide_eq_true h8
      refine AWp.skip ?_
      refine AWp.seq ?_
      refine AWp.block ?_
      obtain ⟨e1_, he1_⟩ : ∃ e_, (vals)[k1_]? = some e_ := ⟨_, List.getElem?_eq_getElem (by omega)⟩
      refine AWp.hz [.run 1, .idx Val.cells vals 3 k1_ e1_ he1_, .run 4] 98 [(3, .rv (.sl 3 (vals.map Val.cells))), (4, .ptr 0 0), (6, .ptr 1 0), (11, .ptr 2 0), (14, vi ((k1_ : Nat) : Int)), (15, .ptr 3 0), (46, .rv (.sl 3 (vals.map Val.cells))), (47, vi ((vals.length : Nat) : Int)), (48, vi ((k1_ : Nat) : Int))] [(3, .box 44 (avs (Val.cells e1_))), (2, .box 38 (avs (Command.cells ((commandM c command).1)))), (1, .box 44 (avs (Val.cells param))), (0, .box 26 (avs (Cluster.cells c)))] 4 ?_
      obtain ⟨e2_, he2_⟩ : ∃ e_, (c.attrs)[k1_]? = some e_ := ⟨_, List.getElem?_eq_getElem (by omega)⟩
      refine AWp.dz [.ptr 0 1, .rv (.sl 7 (c.attrs.map Attr.cells)), vi ((k1_ : Nat) : Int), .rv (.ptr (Attr.cells e2_)), .agg (avs (Attr.cells e2_)), .agg (avs (Val.cells e1_)), vi (fitsM e2_ e1_), vb (fitsM e2_ e1_ != 0)] 98 [(3, .rv (.sl 3 (vals.map Val.cells))), (4, .ptr 0 0), (6, .ptr 1 0), (11, .ptr 2 0), (46, .rv (.sl 3 (vals.map Val.cells))), (47, vi ((vals.length : Nat) : Int)), (48, vi ((k1_ : Nat) : Int)), (60, vb (fitsM e2_ e1_ != 0))] [(2, .box 38 (avs (Command.cells ((commandM c command).1)))), (1, .box 44 (avs (Val.cells param))), (0, .box 26 (avs (Cluster.cells c)))] 4 ?_ ?_
      ·
       refine DSteps.cons (DStep.va) ?_
       refine DSteps.cons (DStep.va) ?_
       refine DSteps.cons (DStep.va) ?_
       refine DSteps.cons (DStep.vs (by kernel_rfl) (R_indexAddrM Attr.cells c.attrs 7 k1_ rfl (by kernel_rfl) (by kernel_rfl) (by kernel_rfl) he2_)) ?_
       refine DSteps.cons (DStep.va) ?_
       refine DSteps.cons (DStep.va) ?_
       refine DSteps.cons (DStep.call rfl (by kernel_rfl) (by kernel_rfl) (by kernel_rfl) (args := [.agg (avs (Attr.cells e2_)), .agg (avs (Val.cells e1_))]) (by kernel_rfl) (by kernel_rfl) (fitsM_ok e2_ e1_) (by kernel_rfl) (Nat.le_of_ble_eq_true (by kernel_rfl))) ?_
       refine DSteps.cons (DStep.va) ?_
       exact DSteps.nl
      refine AWp.cnd ((fitsM e2_ e1_ != 0)) (fun h9 => ?_) (fun h9 => ?_)
      ·
       refine AWp.hz [.run 2] 98 [(8, .rv (.v (.slice none 0 0))), (9, vi 1)] [] 4 ?_
       refine AWp.le (Le.nils (s' := Z 98 [(8, .rv (.sl 3 (([]).map Val.cells))), (9, vi 1)] [] 4) 8 [some 3] (by kernel_rfl)) ?_
       refine AWp.ret ?_
       have hL1_ : applyM_L1 c command param vals = some ([], 1) := scanN_some hs1_ (by omega) (by unfold applyM_B1; (try simp only [he1_]); (try simp only [he2_]); (try rw [h8]); (try rw [h9]); first | done | kernel_rfl)
       exact leafR (r := .tuple [.rv (.sl 3 (([]).map Val.cells)), vi 1]) (by show (.tuple [.rv (.sl 3 (([]).map Val.cells)), vi 1] : AV) = .tuple [.rv (.sl 3 (((applyM c command param vals).1).map Val.cells)), vi ((applyM c command param vals).2)]; unfold applyM; (try rw [h1]); (try rw [h2]); (try rw [h3]); (try rw [h6]); (try rw [hL1_]); first | done | kernel_rfl)
      ·
       refine AWp.skip ?_
       refine AWp.he [.cast (vi (IntKind.i64.wrap (((k1_ : Nat) : Int) + 1))) (vi ((k1_ + 1 : Nat) : Int)) (congrArg vi (wrap_nat (by omega))), .run 1] 98 [(3, .rv (.sl 3 (vals.map Val.cells))), (4, .ptr 0 0), (6, .ptr 1 0), (11, .ptr 2 0), (46, .rv (.sl 3 (vals.map Val.cells))), (47, vi ((vals.length : Nat) : Int)), (48, vi ((k1_ + 1 : Nat) : Int))] [(2, .box 38 (avs (Command.cells ((commandM c command).1)))), (1, .box 44 (avs (Val.cells param))), (0, .box 26 (avs (Cluster.cells c)))] 4 ?_
       exact ⟨k1_ + 1, ⟨by omega, scanN_none hs1_ (by omega) (by unfold applyM_B1; (try simp only [he1_]); (try simp only [he2_]); (try rw [h8]); (try rw [h9]); first | done | kernel_rfl)⟩, by omega, leG⟩
     ·
      have h8' := of_decide_eq_false h8
      refine AWp.exit ?_
      have hL1_ : applyM_L1 c command param vals = none := scanN_end hs1_ (by omega)
      refine AWp.hz [.run 1, .call 46 [.rv (.sl 3 (vals.map Val.cells))] (.sl 0) [(0, .row false 44 3 (vals.map Val.cells))] 1 (cloneVR_ok vals (by first | assumption | exact std_fit _ (List.mem_of_getElem? (by assumption)) | exact fit_s1 (by assumption) | exact std_fit | exact fun c hc => std_fit c (List.mem_of_mem_take (List.mem_of_mem_drop hc)) | exact Nat.le_trans (apply_len _ _ _ _) (by omega) | exact parts_fit (by assumption) | exact parts_fit (by assumption) _ (List.mem_of_getElem? (by assumption)) | (simp; done) | exact ⟨by simp, by simp⟩ | exact hw _ (List.mem_of_getElem? (by assumption)) | exact hw.1 _ (List.mem_of_getElem? (by assumption)) | exact (hw.2 _ (List.mem_of_getElem? (by assumption))).1 | exact (hw.2 _ (List.mem_of_getElem? (by assumption))).2 | omega | exact fit_take hw _)), .run 1] 98 [(4, .ptr 0 0), (6, .ptr 1 0), (11, .ptr 2 0), (16, .sl 3)] [(3, .row false 44 3 (vals.map Val.cells)), (2, .box 38 (avs (Command.cells ((commandM c command).1)))), (1, .box 44 (avs (Val.cells param))), (0, .box 26 (avs (Cluster.cells c)))] 4 ?_
      refine AWp.seq ?_
      refine AWp.hzl [.run 2, .len Effect.cells (((commandM c command).1).effects) 3, .run 1] 98 [(4, .ptr 0 0), (6, .ptr 1 0), (16, .sl 3), (65, .rv (.sl 3 ((((commandM c command).1).effects).map Effect.cells))), (66, vi (((((commandM c command).1).effects).length : Nat) : Int)), (67, vi 0)] [(3, .row false 44 3 (vals.map Val.cells)), (1, .box 44 (avs (Val.cells param))), (0, .box 26 (avs (Cluster.cells c)))] 4 (fun hl => ?_)
      obtain ⟨hn10, -⟩ := hl
      refine AWp.joinE1 (A := (List Val)) (fun x_ => Z 98 [(16, .sl 3)] [(3, .row false 44 3 (x_.map Val.cells))] 4) (fun x_ => x_ = (applyM_L2 c command param vals (vals)) ∧ x_.length = vals.length) ?_ ?_
      ·
       refine AWp.block ?_
       refine AWp.loop (ι := Nat × ((List Val))) (fun x_ => Z 98 [(4, .ptr 0 0), (6, .ptr 1 0), (16, .sl 3), (65, .rv (.sl 3 ((((commandM c command).1).effects).map Effect.cells))), (66, vi (((((commandM c command).1).effects).length : Nat) : Int)), (67, vi ((x_.1 : Nat) : Int))] [(3, .row false 44 3 (x_.2.map Val.cells)), (1, .box 44 (avs (Val.cells param))), (0, .box 26 (avs (Cluster.cells c)))] 4) (fun x_ => x_.1 ≤ ((((commandM c command).1).effects).length) ∧ (applyM_L2 c command param vals (vals)) = iterN (applyM_B2 c command param vals) x_.1 (((((commandM c command).1).effects).length) - x_.1) x_.2 ∧ x_.2.length = vals.length) (fun x_ => ((((commandM c command).1).effects).length) - x_.1) (0, (vals)) leZ ⟨Nat.zero_le _, rfl, rfl⟩ ?_
       rintro ⟨k2_, a2_0⟩ ⟨hk2_, hs2_, hl2_0⟩
       try dsimp only at hk2_
       try dsimp only at hs2_
       try dsimp only at hl2_0
       refine AWp.cv 98 [(4, .ptr 0 0), (6, .ptr 1 0), (16, .sl 3), (65, .rv (.sl 3 ((((commandM c command).1).effects).map Effect.cells))), (66, vi (((((commandM c command).1).effects).length : Nat) : Int)), (67, vi ((k2_ : Nat) : Int))] [(3, .row false 44 3 (a2_0.map Val.cells)), (1, .box 44 (avs (Val.cells param))), (0, .box 26 (avs (Cluster.cells c)))] 4 ?_
       refine AWp.hz [.run 1] 98 [(4, .ptr 0 0), (6, .ptr 1 0), (16, .sl 3), (65, .rv (.sl 3 ((((commandM c command).1).effects).map Effect.cells))), (66, vi (((((commandM c command).1).effects).length : Nat) : Int)), (67, vi ((k2_ : Nat) : Int)), (68, vb (decide (((k2_ : Nat) : Int) < (((((commandM c command).1).effects).length : Nat) : Int))))] [(3, .row false 44 3 (a2_0.map Val.cells)), (1, .box 44 (avs (Val.cells param))), (0, .box 26 (avs (Cluster.cells c)))] 4 ?_
       refine AWp.seq ?_
       refine AWp.cnd (decide (((k2_ : Nat) : Int) < (((((commandM c command).1).effects).length : Nat) : Int))) (fun h11 => ?_) (fun h11 => ?_)
       ·
        have h11' := of_decide_eq_true h11
        refine AWp.skip ?_
        refine AWp.seq ?_
        refine AWp.block ?_
        obtain ⟨e3_, he3_⟩ : ∃ e_, (((commandM c command).1).effects)[k2_]? = some e_ := ⟨_, List.getElem?_eq_getElem (by omega)⟩
        refine AWp.hz [.idx Effect.cells (((commandM c command).1).effects) 3 k2_ e3_ he3_, .run 3] 98 [(4, .ptr 0 0), (6, .ptr 1 0), (16, .sl 3), (18, .ptr 4 0), (65, .rv (.sl 3 ((((commandM c command).1).effects).map Effect.cells))), (66, vi (((((commandM c command).1).effects).length : Nat) : Int)), (67, vi ((k2_ : Nat) : Int))] [(4, .box 52 (avs (Effect.cells e3_))), (3, .row false 44 3 (a2_0.map Val.cells)), (1, .box 44 (avs (Val.cells param))), (0, .box 26 (avs (Cluster.cells c)))] 5 ?_
        refine AWp.hzl [.run 2, .len Attr.cells c.attrs 7, .run 1] 98 [(4, .ptr 0 0), (6, .ptr 1 0), (16, .sl 3), (18, .ptr 4 0), (65, .rv (.sl 3 ((((commandM c command).1).effects).map Effect.cells))), (66, vi (((((commandM c command).1).effects).length : Nat) : Int)), (67, vi ((k2_ : Nat) : Int)), (72, .rv (.sl 7 (c.attrs.map Attr.cells))), (73, vi ((c.attrs.length : Nat) : Int)), (74, vi 0)] [(4, .box 52 (avs (Effect.cells e3_))), (3, .row false 44 3 (a2_0.map Val.cells)), (1, .box 44 (avs (Val.cells param))), (0, .box 26 (avs (Cluster.cells c)))] 5 (fun hl => ?_)
        obtain ⟨hn12, -⟩ := hl
        refine AWp.joinE1 (A := (List Val)) (fun x_ => Z 98 [(4, .ptr 0 0), (6, .ptr 1 0), (16, .sl 3), (65, .rv (.sl 3 ((((commandM c command).1).effects).map Effect.cells))), (66, vi (((((commandM c command).1).effects).length : Nat) : Int)), (67, vi ((k2_ : Nat) : Int))] [(3, .row false 44 3 (x_.map Val.cells)), (1, .box 44 (avs (Val.cells param))), (0, .box 26 (avs (Cluster.cells c)))] 5) (fun x_ => x_ = (applyM_L3 c command param vals e3_ (a2_0)) ∧ x_.length = a2_0.length) ?_ ?_
        ·
         refine AWp.block ?_
         refine AWp.loop (ι := Nat × ((List Val))) (fun x_ => Z 98 [(4, .ptr 0 0), (6, .ptr 1 0), (16, .sl 3), (18, .ptr 4 0), (65, .rv (.sl 3 ((((commandM c command).1).effects).map Effect.cells))), (66, vi (((((commandM c command).1).effects).length : Nat) : Int)), (67, vi ((k2_ : Nat) : Int)), (72, .rv (.sl 7 (c.attrs.map Attr.cells))), (73, vi ((c.attrs.length : Nat) : Int)), (74, vi ((x_.1 : Nat) : Int))] [(4, .box 52 (avs (Effect.cells e3_))), (3, .row false 44 3 (x_.2.map Val.cells)), (1, .box 44 (avs (Val.cells param))), (0, .box 26 (avs (Cluster.cells c)))] 5) (fun x_ => x_.1 ≤ c.attrs.length ∧ (applyM_L3 c command param vals e3_ (a2_0)) = iterN (applyM_B3 c command param vals e3_) x_.1 (c.attrs.length - x_.1) x_.2 ∧ x_.2.length = a2_0.length) (fun x_ => c.attrs.length - x_.1) (0, (a2_0)) leZ ⟨Nat.zero_le _, rfl, rfl⟩ ?_
         rintro ⟨k3_, a3_0⟩ ⟨hk3_, hs3_, hl3_0⟩
         try dsimp only at hk3_
         try dsimp only at hs3_
         try dsimp only at hl3_0
         refine AWp.cv 98 [(4, .ptr 0 0), (6, .ptr 1 0), (16, .sl 3), (18, .ptr 4 0), (65, .rv (.sl 3 ((((commandM c command).1).effects).map Effect.cells))), (66, vi (((((commandM c command).1).effects).length : Nat) : Int)), (67, vi ((k2_ : Nat) : Int)), (72, .rv (.sl 7 (c.attrs.map Attr.cells))), (73, vi ((c.attrs.length : Nat) : Int)), (74, vi ((k3_ : Nat) : Int))] [(4, .box 52 (avs (Effect.cells e3_))), (3, .row false 44 3 (a3_0.map Val.cells)), (1, .box 44 (avs (Val.cells param))), (0, .box 26 (avs (Cluster.cells c)))] 5 ?_
         refine AWp.hz [.run 1] 98 [(4, .ptr 0 0), (6, .ptr 1 0), (16, .sl 3), (18, .ptr 4 0), (65, .rv (.sl 3 ((((commandM c command).1).effects).map Effect.cells))), (66, vi (((((commandM c command).1).effects).length : Nat) : Int)), (67, vi ((k2_ : Nat) : Int)), (72, .rv (.sl 7 (c.attrs.map Attr.cells))), (73, vi ((c.attrs.length : Nat) : Int)), (74, vi ((k3_ : Nat) : Int)), (75, vb (decide (((k3_ : Nat) : Int) < ((c.attrs.length : Nat) : Int))))] [(4, .box 52 (avs (Effect.cells e3_))), (3, .row false 44 3 (a3_0.map Val.cells)), (1, .box 44 (avs (Val.cells param))), (0, .box 26 (avs (Cluster.cells c)))] 5 ?_
         refine AWp.seq ?_
         refine AWp.cnd (decide (((k3_ : Nat) : Int) < ((c.attrs.length : Nat) : Int))) (fun h13 => ?_) (fun h13 => ?_)
         ·
          have h13' := of_decide_eq_true h13
          refine AWp.skip ?_
          refine AWp.seq ?_
          refine AWp.block ?_
          obtain ⟨e4_, he4_⟩ : ∃ e_, (c.attrs)[k3_]? = some e_ := ⟨_, List.getElem?_eq_getElem (by omega)⟩
          refine AWp.hz [.run 1, .idx Attr.cells c.attrs 7 k3_ e4_ he4_, .run 4] 98 [(4, .ptr 0 0), (6, .ptr 1 0), (16, .sl 3), (18, .ptr 4 0), (19, vi ((k3_ : Nat) : Int)), (20, .ptr 5 0), (65, .rv (.sl 3 ((((commandM c command).1).effects).map Effect.cells))), (66, vi (((((commandM c command).1).effects).length : Nat) : Int)), (67, vi ((k2_ : Nat) : Int)), (72, .rv (.sl 7 (c.attrs.map Attr.cells))), (73, vi ((c.attrs.length : Nat) : Int)), (74, vi ((k3_ : Nat) : Int))] [(5, .box 32 (avs (Attr.cells e4_))), (4, .box 52 (avs (Effect.cells e3_))), (3, .row false 44 3 (a3_0.map Val.cells)), (1, .box 44 (avs (Val.cells param))), (0, .box 26 (avs (Cluster.cells c)))] 6 ?_
          refine AWp.hz [.run 5] 98 [(4, .ptr 0 0), (6, .ptr 1 0), (16, .sl 3), (18, .ptr 4 0), (19, vi ((k3_ : Nat) : Int)), (20, .ptr 5 0), (65, .rv (.sl 3 ((((commandM c command).1).effects).map Effect.cells))), (66, vi (((((commandM c command).1).effects).length : Nat) : Int)), (67, vi ((k2_ : Nat) : Int)), (72, .rv (.sl 7 (c.attrs.map Attr.cells))), (73, vi ((c.attrs.length : Nat) : Int)), (74, vi ((k3_ : Nat) : Int)), (83, vb (beqS e4_.name e3_.attr))] [(5, .box 32 (avs (Attr.cells e4_))), (4, .box 52 (avs (Effect.cells e3_))), (3, .row false 44 3 (a3_0.map Val.cells)), (1, .box 44 (avs (Val.cells param))), (0, .box 26 (avs (Cluster.cells c)))] 6 ?_
          refine AWp.cnd (beqS e4_.name e3_.attr) (fun h14 => ?_) (fun h14 => ?_)
          ·
           have hi15 : k3_ < a3_0.length := by first | omega | (simp only [List.length_set, List.length_append, List.length_cons, List.length_nil] at *; omega)
           obtain ⟨e6_, he6_⟩ : ∃ e_, (a3_0)[k3_]? = some e_ := ⟨_, List.getElem?_eq_getElem (by omega)⟩
           have hi16 : k3_ < a3_0.length := by first | omega | (simp only [List.length_set, List.length_append, List.length_cons, List.length_nil] at *; omega)
           refine AWp.dzT 11 [.sl 3, vi ((k3_ : Nat) : Int), .agg (avs (Effect.cells e3_)), .agg (avs (Attr.cells e4_)), .agg (avs (Val.cells param)), .sl 3, vi ((k3_ : Nat) : Int), .eptr 3 k3_ 0, .agg (avs (Val.cells e6_)), .agg (avs (Val.cells (afterM e3_ e4_ param e6_))), .eptr 3 k3_ 0] 98 [(4, .ptr 0 0), (6, .ptr 1 0), (16, .sl 3), (18, .ptr 4 0), (65, .rv (.sl 3 ((((commandM c command).1).effects).map Effect.cells))), (66, vi (((((commandM c command).1).effects).length : Nat) : Int)), (67, vi ((k2_ : Nat) : Int)), (72, .rv (.sl 7 (c.attrs.map Attr.cells))), (73, vi ((c.attrs.length : Nat) : Int)), (74, vi ((k3_ : Nat) : Int)), (93, .agg (avs (Val.cells (afterM e3_ e4_ param e6_)))), (94, .eptr 3 k3_ 0)] [(4, .box 52 (avs (Effect.cells e3_))), (3, .row false 44 3 (a3_0.map Val.cells)), (1, .box 44 (avs (Val.cells param))), (0, .box 26 (avs (Cluster.cells c)))] 6 ?_ ?_
           ·
            refine DSteps.cons (DStep.va) ?_
            refine DSteps.cons (DStep.va) ?_
            refine DSteps.cons (DStep.va) ?_
            refine DSteps.cons (DStep.va) ?_
            refine DSteps.cons (DStep.va) ?_
            refine DSteps.cons (DStep.va) ?_
            refine DSteps.cons (DStep.va) ?_
            refine DSteps.cons (DStep.vs (by kernel_rfl) (R_indexAddrRow Val.cells a3_0 3 3 k3_ (bt := 44) rfl (by kernel_rfl) (by kernel_rfl) (by kernel_rfl) (by kernel_rfl) hi15)) ?_
            refine DSteps.cons (DStep.vs (by kernel_rfl) (R_loadRow Val.cells a3_0 3 3 k3_ 0 3 (bt := 44) rfl (by kernel_rfl) (by kernel_rfl) (by kernel_rfl) he6_ (by kernel_rfl) (by kernel_rfl) rfl)) ?_
            refine DSteps.cons (DStep.call rfl (by kernel_rfl) (by kernel_rfl) (by kernel_rfl) (args := [.agg (avs (Effect.cells e3_)), .agg (avs (Attr.cells e4_)), .agg (avs (Val.cells param)), .agg (avs (Val.cells e6_))]) (by kernel_rfl) (by kernel_rfl) (afterM_ok e3_ e4_ param e6_) (by kernel_rfl) (Nat.le_of_ble_eq_true (by kernel_rfl))) ?_
            refine DSteps.cons (DStep.vs (by kernel_rfl) (R_indexAddrRow Val.cells a3_0 3 3 k3_ (bt := 44) rfl (by kernel_rfl) (by kernel_rfl) (by kernel_rfl) (by kernel_rfl) hi16)) ?_
            exact DSteps.nl
           refine AOps.he [.stR Val.cells a3_0 3 3 k3_ 0 e6_ (afterM e3_ e4_ param e6_) he6_] 98 [(4, .ptr 0 0), (6, .ptr 1 0), (16, .sl 3), (18, .ptr 4 0), (65, .rv (.sl 3 ((((commandM c command).1).effects).map Effect.cells))), (66, vi (((((commandM c command).1).effects).length : Nat) : Int)), (67, vi ((k2_ : Nat) : Int)), (72, .rv (.sl 7 (c.attrs.map Attr.cells))), (73, vi ((c.attrs.length : Nat) : Int)), (74, vi ((k3_ : Nat) : Int))] [(4, .box 52 (avs (Effect.cells e3_))), (3, .row false 44 3 ((a3_0.set k3_ (afterM e3_ e4_ param e6_)).map Val.cells)), (1, .box 44 (avs (Val.cells param))), (0, .box 26 (avs (Cluster.cells c)))] 6 ?_
           refine AWp.he [.cast (vi (IntKind.i64.wrap (((k3_ : Nat) : Int) + 1))) (vi ((k3_ + 1 : Nat) : Int)) (congrArg vi (wrap_nat (by omega))), .run 1] 98 [(4, .ptr 0 0), (6, .ptr 1 0), (16, .sl 3), (18, .ptr 4 0), (65, .rv (.sl 3 ((((commandM c command).1).effects).map Effect.cells))), (66, vi (((((commandM c command).1).effects).length : Nat) : Int)), (67, vi ((k2_ : Nat) : Int)), (72, .rv (.sl 7 (c.attrs.map Attr.cells))), (73, vi ((c.attrs.length : Nat) : Int)), (74, vi ((k3_ + 1 : Nat) : Int))] [(4, .box 52 (avs (Effect.cells e3_))), (3, .row false 44 3 ((a3_0.set k3_ (afterM e3_ e4_ param e6_)).map Val.cells)), (1, .box 44 (avs (Val.cells param))), (0, .box 26 (avs (Cluster.cells c)))] 6 ?_
           exact ⟨(k3_ + 1, ((a3_0.set k3_ (afterM e3_ e4_ param e6_)))), ⟨by show k3_ + 1 ≤ _; omega, iterN_next hs3_ (by omega) (by unfold applyM_B3; (try dsimp only); (try simp only [he3_]); (try simp only [he4_]); (try simp only [he6_]); (try rw [h13]); (try rw [h14]); first | done | kernel_rfl), by first | assumption | (simp only [List.length_set, List.length_append, List.length_cons, List.length_nil]; first | done | assumption | omega) | omega⟩, by show _ - (k3_ + 1) < _ - k3_; omega, leG⟩
          ·
           refine AWp.skip ?_
           refine AWp.he [.cast (vi (IntKind.i64.wrap (((k3_ : Nat) : Int) + 1))) (vi ((k3_ + 1 : Nat) : Int)) (congrArg vi (wrap_nat (by omega))), .run 1] 98 [(4, .ptr 0 0), (6, .ptr 1 0), (16, .sl 3), (18, .ptr 4 0), (65, .rv (.sl 3 ((((commandM c command).1).effects).map Effect.cells))), (66, vi (((((commandM c command).1).effects).length : Nat) : Int)), (67, vi ((k2_ : Nat) : Int)), (72, .rv (.sl 7 (c.attrs.map Attr.cells))), (73, vi ((c.attrs.length : Nat) : Int)), (74, vi ((k3_ + 1 : Nat) : Int))] [(4, .box 52 (avs (Effect.cells e3_))), (3, .row false 44 3 (a3_0.map Val.cells)), (1, .box 44 (avs (Val.cells param))), (0, .box 26 (avs (Cluster.cells c)))] 6 ?_
           exact ⟨(k3_ + 1, (a3_0)), ⟨by show k3_ + 1 ≤ _; omega, iterN_next hs3_ (by omega) (by unfold applyM_B3; (try dsimp only); (try simp only [he3_]); (try simp only [he4_]); (try rw [h13]); (try rw [h14]); first | done | kernel_rfl), by first | assumption | (simp only [List.length_set, List.length_append, List.length_cons, List.length_nil]; first | done | assumption | omega) | omega⟩, by show _ - (k3_ + 1) < _ - k3_; omega, leG⟩
         ·
          have h13' := of_decide_eq_false h13
          refine AWp.exit ?_
          have hq3_ : (a3_0) = (applyM_L3 c command param vals e3_ (a2_0)) := iterN_end hs3_ (by omega)
          exact ⟨(a3_0), ⟨hq3_, by first | assumption | (simp only [List.length_set, List.length_append, List.length_cons, List.length_nil]; first | done | assumption | omega) | omega⟩, leG⟩
        ·
         rintro _ ⟨rfl, hl3_0⟩
         try dsimp only at hl3_0
         refine AWp.he [.cast (vi (IntKind.i64.wrap (((k2_ : Nat) : Int) + 1))) (vi ((k2_ + 1 : Nat) : Int)) (congrArg vi (wrap_nat (by omega))), .run 1] 98 [(4, .ptr 0 0), (6, .ptr 1 0), (16, .sl 3), (65, .rv (.sl 3 ((((commandM c command).1).effects).map Effect.cells))), (66, vi (((((commandM c command).1).effects).length : Nat) : Int)), (67, vi ((k2_ + 1 : Nat) : Int))] [(3, .row false 44 3 ((applyM_L3 c command param vals e3_ (a2_0)).map Val.cells)), (1, .box 44 (avs (Val.cells param))), (0, .box 26 (avs (Cluster.cells c)))] 5 ?_
         exact ⟨(k2_ + 1, ((applyM_L3 c command param vals e3_ (a2_0)))), ⟨by show k2_ + 1 ≤ _; omega, iterN_next hs2_ (by omega) (by unfold applyM_B2; (try dsimp only); (try simp only [he3_]); (try rw [h11]); first | done | kernel_rfl), by first | assumption | (simp only [List.length_set, List.length_append, List.length_cons, List.length_nil]; first | done | assumption | omega) | omega⟩, by show _ - (k2_ + 1) < _ - k2_; omega, leG⟩
       ·
        have h11' := of_decide_eq_false h11
        refine AWp.exit ?_
        have hq2_ : (a2_0) = (applyM_L2 c command param vals (vals)) := iterN_end hs2_ (by omega)
        exact ⟨(a2_0), ⟨hq2_, by first | assumption | (simp only [List.length_set, List.length_append, List.length_cons, List.length_nil]; first | done | assumption | omega) | omega⟩, leG⟩
      ·
       rintro _ ⟨rfl, hl2_0⟩
       try dsimp only at hl2_0
       refine AWp.hz [.run 3] 98 [(8, .sl 3), (9, vi 0)] [(3, .row false 44 3 ((applyM_L2 c command param vals (vals)).map Val.cells))] 4 ?_
       refine AWp.le (Le.frz _ 3) ?_
       refine AWp.cv 98 [(8, .rv (.sl 3 ((applyM_L2 c command param vals (vals)).map Val.cells))), (9, vi 0)] [] 4 ?_
       refine AWp.ret ?_
       exact leafR (r := .tuple [.rv (.sl 3 ((applyM_L2 c command param vals (vals)).map Val.cells)), vi 0]) (by show (.tuple [.rv (.sl 3 ((applyM_L2 c command param vals (vals)).map Val.cells)), vi 0] : AV) = .tuple [.rv (.sl 3 (((applyM c command param vals).1).map Val.cells)), vi ((applyM c command param vals).2)]; unfold applyM; (try rw [h1]); (try rw [h2]); (try rw [h3]); (try rw [h6]); (try rw [hL1_]); first | done | kernel_rfl)
def rapplyM_B1 (c : Cluster) (command : ByteArray) (param : Val) (vals : List Val) (k1_ : Nat) (x_ : (List Val)) : Step (List Val × Int) ((List Val)) :=
  match x_ with
  | (a1_0) => (match (c.attrs)[k1_]? with | some e1_ => (match (vals)[k1_]? with | some e2_ => (bif (rfitsM e1_ e2_ != 0) then .ret ([], 1) else .nxt ((a1_0 ++ [e2_]))) | none => .nxt x_) | none => .nxt x_)
def rapplyM_L1 (c : Cluster) (command : ByteArray) (param : Val) (vals : List Val) (x_ : (List Val)) : (List Val × Int) ⊕ ((List Val)) := loopS (rapplyM_B1 c command param vals) 0 vals.length x_
def rapplyM_B2 (c : Cluster) (command : ByteArray) (param : Val) (vals : List Val) (k2_ : Nat) (x_ : (List Val)) : (List Val) :=
  match x_ with
  | (a2_0) => (match (((rcommandM c command).1).effects)[k2_]? with | some e3_ => (match (c.attrs)[(placeM c e3_.attr).toNat]? with | some e4_ => (match (a2_0)[(placeM c e3_.attr).toNat]? with | some e6_ => ((a2_0.set ((placeM c e3_.attr).toNat) (doneM e3_ e4_ param e6_))) | none => x_) | none => x_) | none => x_)
def rapplyM_L2 (c : Cluster) (command : ByteArray) (param : Val) (vals : List Val) (x_ : (List Val)) : (List Val) := iterN (rapplyM_B2 c command param vals) 0 ((((rcommandM c command).1).effects).length) x_
def rapplyM (c : Cluster) (command : ByteArray) (param : Val) (vals : List Val) : List Val × Int :=
  (bif (rcheckM c != 0) then ([], rcheckM c) else (bif !((rcommandM c command).2) then ([], 8) else (bif (bif ((((rcommandM c command).1).param).kind == 0) then !(!((param.kind == 0) && ((param.n == 0) && (beqS param.s (⟨#[]⟩) && true)))) else !(rfitsM (((rcommandM c command).1).param) param != 0)) then (bif (((vals.length : Nat) : Int) != ((c.attrs.length : Nat) : Int)) then ([], 1) else (match (rapplyM_L1 c command param vals ([])) with | .inl r_ => r_ | .inr (a1_0) => ((rapplyM_L2 c command param vals (a1_0)), 0))) else (bif ((((rcommandM c command).1).param).kind == 0) then ([], 11) else ([], rfitsM (((rcommandM c command).1).param) param)))))
theorem rapplyM_ok (c : Cluster) (command : ByteArray) (param : Val) (vals : List Val) (hv : vals.length ≤ 1000000) :
 ACalls Tryd.prog G_ 22 [.agg (avs (Cluster.cells c)), vs command, .agg (avs (Val.cells param)), .rv (.sl 3 (vals.map Val.cells))] [] 0 (fun r τ => r = .tuple [.rv (.sl 3 (((rapplyM c command param vals).1).map Val.cells)), vi ((rapplyM c command param vals).2)] ∧ τ = []) := by
 refine ACalls.body Tryd.func22 rfl 112 [(0, .agg (avs (Cluster.cells c))), (1, vs command), (2, .agg (avs (Val.cells param))), (3, .rv (.sl 3 (vals.map Val.cells)))] ?_
 refine AWp.hz [.run 4] 112 [(1, vs command), (3, .rv (.sl 3 (vals.map Val.cells))), (4, .ptr 0 0), (6, .ptr 1 0)] [(1, .box 44 (avs (Val.cells param))), (0, .box 26 (avs (Cluster.cells c)))] 2 ?_
 refine AWp.hz [.run 1, .call 14 [.agg (avs (Cluster.cells c))] (vi (rcheckM c)) [] 0 (rcheckM_ok c), .run 1] 112 [(1, vs command), (3, .rv (.sl 3 (vals.map Val.cells))), (4, .ptr 0 0), (6, .ptr 1 0), (10, vi (rcheckM c))] [(1, .box 44 (avs (Val.cells param))), (0, .box 26 (avs (Cluster.cells c)))] 2 ?_
 refine AWp.seq ?_
 refine AWp.hz [.run 2] 112 [(1, vs command), (3, .rv (.sl 3 (vals.map Val.cells))), (4, .ptr 0 0), (6, .ptr 1 0), (10, vi (rcheckM c)), (20, vb (rcheckM c != 0))] [(1, .box 44 (avs (Val.cells param))), (0, .box 26 (avs (Cluster.cells c)))] 2 ?_
 refine AWp.cnd ((rcheckM c != 0)) (fun h1 => ?_) (fun h1 => ?_)
 ·
  refine AWp.hz [.run 3] 112 [(8, .rv (.v (.slice none 0 0))), (9, vi (rcheckM c))] [] 2 ?_
  refine AWp.le (Le.nils (s' := Z 112 [(8, .rv (.sl 3 (([]).map Val.cells))), (9, vi (rcheckM c))] [] 2) 8 [some 3] (by kernel_rfl)) ?_
  refine AWp.ret ?_
  exact leafR (r := .tuple [.rv (.sl 3 (([]).map Val.cells)), vi (rcheckM c)]) (by show (.tuple [.rv (.sl 3 (([]).map Val.cells)), vi (rcheckM c)] : AV) = .tuple [.rv (.sl 3 (((rapplyM c command param vals).1).map Val.cells)), vi ((rapplyM c command param vals).2)]; unfold rapplyM; (try rw [h1]); first | done | kernel_rfl)
 ·
  refine AWp.skip ?_
  refine AWp.hz [.run 2, .call 19 [.agg (avs (Cluster.cells c)), vs command] (.tuple [.agg (avs (Command.cells ((rcommandM c command).1))), vb ((rcommandM c command).2)]) [] 0 (rcommandM_ok c command), .run 6] 112 [(3, .rv (.sl 3 (vals.map Val.cells))), (4, .ptr 0 0), (6, .ptr 1 0), (11, .ptr 2 0), (12, vb ((rcommandM c command).2))] [(2, .box 38 (avs (Command.cells ((rcommandM c command).1)))), (1, .box 44 (avs (Val.cells param))), (0, .box 26 (avs (Cluster.cells c)))] 3 ?_
  refine AWp.seq ?_
  refine AWp.hz [.run 2] 112 [(3, .rv (.sl 3 (vals.map Val.cells))), (4, .ptr 0 0), (6, .ptr 1 0), (11, .ptr 2 0), (29, vb (!((rcommandM c command).2)))] [(2, .box 38 (avs (Command.cells ((rcommandM c command).1)))), (1, .box 44 (avs (Val.cells param))), (0, .box 26 (avs (Cluster.cells c)))] 3 ?_
  refine AWp.cnd (!((rcommandM c command).2)) (fun h2 => ?_) (fun h2 => ?_)
  ·
   refine AWp.hz [.run 2] 112 [(8, .rv (.v (.slice none 0 0))), (9, vi 8)] [] 3 ?_
   refine AWp.le (Le.nils (s' := Z 112 [(8, .rv (.sl 3 (([]).map Val.cells))), (9, vi 8)] [] 3) 8 [some 3] (by kernel_rfl)) ?_
   refine AWp.ret ?_
   exact leafR (r := .tuple [.rv (.sl 3 (([]).map Val.cells)), vi 8]) (by show (.tuple [.rv (.sl 3 (([]).map Val.cells)), vi 8] : AV) = .tuple [.rv (.sl 3 (((rapplyM c command param vals).1).map Val.cells)), vi ((rapplyM c command param vals).2)]; unfold rapplyM; (try rw [h1]); (try rw [h2]); first | done | kernel_rfl)
  ·
   refine AWp.skip ?_
   refine AWp.joinP (Z 112 [(3, .rv (.sl 3 (vals.map Val.cells))), (4, .ptr 0 0), (6, .ptr 1 0), (11, .ptr 2 0)] [(2, .box 38 (avs (Command.cells ((rcommandM c command).1)))), (1, .box 44 (avs (Val.cells param))), (0, .box 26 (avs (Cluster.cells c)))] 3) ((bif ((((rcommandM c command).1).param).kind == 0) then !(!((param.kind == 0) && ((param.n == 0) && (beqS param.s (⟨#[]⟩) && true)))) else !(rfitsM (((rcommandM c command).1).param) param != 0)) = true) ?_ (fun hj3 => ?_)
   ·
    refine AWp.hz [.run 4] 112 [(3, .rv (.sl 3 (vals.map Val.cells))), (4, .ptr 0 0), (6, .ptr 1 0), (11, .ptr 2 0), (33, vb ((((rcommandM c command).1).param).kind == 0))] [(2, .box 38 (avs (Command.cells ((rcommandM c command).1)))), (1, .box 44 (avs (Val.cells param))), (0, .box 26 (avs (Cluster.cells c)))] 3 ?_
    refine AWp.cnd (((((rcommandM c command).1).param).kind == 0)) (fun h4 => ?_) (fun h4 => ?_)
    ·
     refine AWp.hz [.run 3] 112 [(3, .rv (.sl 3 (vals.map Val.cells))), (4, .ptr 0 0), (6, .ptr 1 0), (11, .ptr 2 0), (36, vb (!((param.kind == 0) && ((param.n == 0) && (beqS param.s (⟨#[]⟩) && true)))))] [(2, .box 38 (avs (Command.cells ((rcommandM c command).1)))), (1, .box 44 (avs (Val.cells param))), (0, .box 26 (avs (Cluster.cells c)))] 3 ?_
     refine AWp.cnd (!((param.kind == 0) && ((param.n == 0) && (beqS param.s (⟨#[]⟩) && true)))) (fun h5 => ?_) (fun h5 => ?_)
     ·
      refine AWp.hz [.run 2] 112 [(8, .rv (.v (.slice none 0 0))), (9, vi 11)] [] 3 ?_
      refine AWp.le (Le.nils (s' := Z 112 [(8, .rv (.sl 3 (([]).map Val.cells))), (9, vi 11)] [] 3) 8 [some 3] (by kernel_rfl)) ?_
      refine AWp.ret ?_
      exact leafR (r := .tuple [.rv (.sl 3 (([]).map Val.cells)), vi 11]) (by show (.tuple [.rv (.sl 3 (([]).map Val.cells)), vi 11] : AV) = .tuple [.rv (.sl 3 (((rapplyM c command param vals).1).map Val.cells)), vi ((rapplyM c command param vals).2)]; unfold rapplyM; (try rw [h1]); (try rw [h2]); (try rw [h4]); (try rw [h5]); first | done | kernel_rfl)
     ·
      refine AWp.skip ?_
      exact ⟨leZ, by rw [h4, h5]; first | done | kernel_rfl⟩
    ·
     refine AWp.hz [.run 3, .call 48 [.agg [vs ((((rcommandM c command).1).param).name), vi ((((rcommandM c command).1).param).kind), vi ((((rcommandM c command).1).param).min), vi ((((rcommandM c command).1).param).max), .rv (.sl 1 (((((rcommandM c command).1).param).enum).map strC)), vb ((((rcommandM c command).1).param).writable), vb ((((rcommandM c command).1).param).safety)], .agg (avs (Val.cells param))] (vi (rfitsM (((rcommandM c command).1).param) param)) [] 0 (rfitsM_ok (((rcommandM c command).1).param) param), .run 1] 112 [(3, .rv (.sl 3 (vals.map Val.cells))), (4, .ptr 0 0), (6, .ptr 1 0), (10, vi (rfitsM (((rcommandM c command).1).param) param)), (11, .ptr 2 0)] [(2, .box 38 (avs (Command.cells ((rcommandM c command).1)))), (1, .box 44 (avs (Val.cells param))), (0, .box 26 (avs (Cluster.cells c)))] 3 ?_
     refine AWp.hz [.run 2] 112 [(3, .rv (.sl 3 (vals.map Val.cells))), (4, .ptr 0 0), (6, .ptr 1 0), (10, vi (rfitsM (((rcommandM c command).1).param) param)), (11, .ptr 2 0), (42, vb (rfitsM (((rcommandM c command).1).param) param != 0))] [(2, .box 38 (avs (Command.cells ((rcommandM c command).1)))), (1, .box 44 (avs (Val.cells param))), (0, .box 26 (avs (Cluster.cells c)))] 3 ?_
     refine AWp.cnd ((rfitsM (((rcommandM c command).1).param) param != 0)) (fun h6 => ?_) (fun h6 => ?_)
     ·
      refine AWp.hz [.run 3] 112 [(8, .rv (.v (.slice none 0 0))), (9, vi (rfitsM (((rcommandM c command).1).param) param))] [] 3 ?_
      refine AWp.le (Le.nils (s' := Z 112 [(8, .rv (.sl 3 (([]).map Val.cells))), (9, vi (rfitsM (((rcommandM c command).1).param) param))] [] 3) 8 [some 3] (by kernel_rfl)) ?_
      refine AWp.ret ?_
      exact leafR (r := .tuple [.rv (.sl 3 (([]).map Val.cells)), vi (rfitsM (((rcommandM c command).1).param) param)]) (by show (.tuple [.rv (.sl 3 (([]).map Val.cells)), vi (rfitsM (((rcommandM c command).1).param) param)] : AV) = .tuple [.rv (.sl 3 (((rapplyM c command param vals).1).map Val.cells)), vi ((rapplyM c command param vals).2)]; unfold rapplyM; (try rw [h1]); (try rw [h2]); (try rw [h4]); (try rw [h6]); first | done | kernel_rfl)
     ·
      refine AWp.skip ?_
      exact ⟨leZ, by rw [h4, h6]; first | done | kernel_rfl⟩
   ·
    refine AWp.seq ?_
    refine AWp.hzl [.run 1, .len Val.cells vals 3, .run 2, .len Attr.cells c.attrs 7, .run 1] 112 [(3, .rv (.sl 3 (vals.map Val.cells))), (4, .ptr 0 0), (6, .ptr 1 0), (11, .ptr 2 0), (49, vb (((vals.length : Nat) : Int) != ((c.attrs.length : Nat) : Int)))] [(2, .box 38 (avs (Command.cells ((rcommandM c command).1)))), (1, .box 44 (avs (Val.cells param))), (0, .box 26 (avs (Cluster.cells c)))] 3 (fun hl => ?_)
    obtain ⟨hn7, hn8, -⟩ := hl
    refine AWp.cnd ((((vals.length : Nat) : Int) != ((c.attrs.length : Nat) : Int))) (fun h9 => ?_) (fun h9 => ?_)
    ·
     have h9' := bne_t h9
     refine AWp.hz [.run 2] 112 [(8, .rv (.v (.slice none 0 0))), (9, vi 1)] [] 3 ?_
     refine AWp.le (Le.nils (s' := Z 112 [(8, .rv (.sl 3 (([]).map Val.cells))), (9, vi 1)] [] 3) 8 [some 3] (by kernel_rfl)) ?_
     refine AWp.ret ?_
     exact leafR (r := .tuple [.rv (.sl 3 (([]).map Val.cells)), vi 1]) (by show (.tuple [.rv (.sl 3 (([]).map Val.cells)), vi 1] : AV) = .tuple [.rv (.sl 3 (((rapplyM c command param vals).1).map Val.cells)), vi ((rapplyM c command param vals).2)]; unfold rapplyM; (try rw [h1]); (try rw [h2]); (try rw [hj3]); (try rw [h9]); first | done | kernel_rfl)
    ·
     have h9' := bne_f h9
     refine AWp.skip ?_
     refine AWp.rg ?_
     refine AOps.hzl [.run 1, .len Val.cells vals 3] 112 [(3, .rv (.sl 3 (vals.map Val.cells))), (4, .ptr 0 0), (6, .ptr 1 0), (11, .ptr 2 0), (51, vi ((vals.length : Nat) : Int))] [(2, .box 38 (avs (Command.cells ((rcommandM c command).1)))), (1, .box 44 (avs (Val.cells param))), (0, .box 26 (avs (Cluster.cells c)))] 3 (fun hl => ?_)
     obtain ⟨hn10, -⟩ := hl
     refine AOps.he [.mk Val.cells (⟨0, 0, ⟨#[]⟩⟩ : Val) 0 vals.length 44 3 32 (mkSz (by first | omega | (simp; omega))), .run 1] 112 [(3, .rv (.sl 3 (vals.map Val.cells))), (4, .ptr 0 0), (6, .ptr 1 0), (11, .ptr 2 0), (13, .sl 3)] [(3, .row false 44 3 ([])), (2, .box 38 (avs (Command.cells ((rcommandM c command).1)))), (1, .box 44 (avs (Val.cells param))), (0, .box 26 (avs (Cluster.cells c)))] 4 ?_
     refine AWp.seq ?_
     refine AWp.hzl [.run 1, .len Val.cells vals 3, .run 1] 112 [(3, .rv (.sl 3 (vals.map Val.cells))), (4, .ptr 0 0), (6, .ptr 1 0), (11, .ptr 2 0), (13, .sl 3), (54, vi ((vals.length : Nat) : Int)), (55, vi 0)] [(3, .row false 44 3 ([])), (2, .box 38 (avs (Command.cells ((rcommandM c command).1)))), (1, .box 44 (avs (Val.cells param))), (0, .box 26 (avs (Cluster.cells c)))] 4 (fun hl => ?_)
     obtain ⟨hn11, -⟩ := hl
     refine AWp.joinE1 (A := (List Val)) (fun x_ => Z 112 [(4, .ptr 0 0), (6, .ptr 1 0), (11, .ptr 2 0), (13, .sl 3)] [(3, .row false 44 3 (x_.map Val.cells)), (2, .box 38 (avs (Command.cells ((rcommandM c command).1)))), (1, .box 44 (avs (Val.cells param))), (0, .box 26 (avs (Cluster.cells c)))] 4) (fun x_ => (rapplyM_L1 c command param vals ([])) = .inr x_ ∧ x_.length = 0 + vals.length) ?_ ?_
     ·
      refine AWp.block ?_
      refine AWp.loop (ι := Nat × ((List Val))) (fun x_ => Z 112 [(3, .rv (.sl 3 (vals.map Val.cells))), (4, .ptr 0 0), (6, .ptr 1 0), (11, .ptr 2 0), (13, .sl 3), (54, vi ((vals.length : Nat) : Int)), (55, vi ((x_.1 : Nat) : Int))] [(3, .row false 44 3 (x_.2.map Val.cells)), (2, .box 38 (avs (Command.cells ((rcommandM c command).1)))), (1, .box 44 (avs (Val.cells param))), (0, .box 26 (avs (Cluster.cells c)))] 4) (fun x_ => x_.1 ≤ vals.length ∧ (rapplyM_L1 c command param vals ([])) = loopS (rapplyM_B1 c command param vals) x_.1 (vals.length - x_.1) x_.2 ∧ x_.2.length = 0 + x_.1) (fun x_ => vals.length - x_.1) (0, ([])) leZ ⟨Nat.zero_le _, rfl, rfl⟩ ?_
      rintro ⟨k1_, a1_0⟩ ⟨hk1_, hs1_, hl1_0⟩
      try dsimp only at hk1_
      try dsimp only at hs1_
      try dsimp only at hl1_0
      refine AWp.cv 112 [(3, .rv (.sl 3 (vals.map Val.cells))), (4, .ptr 0 0), (6, .ptr 1 0), (11, .ptr 2 0), (13, .sl 3), (54, vi ((vals.length : Nat) : Int)), (55, vi ((k1_ : Nat) : Int))] [(3, .row false 44 3 (a1_0.map Val.cells)), (2, .box 38 (avs (Command.cells ((rcommandM c command).1)))), (1, .box 44 (avs (Val.cells param))), (0, .box 26 (avs (Cluster.cells c)))] 4 ?_
      refine AWp.hz [.run 1] 112 [(3, .rv (.sl 3 (vals.map Val.cells))), (4, .ptr 0 0), (6, .ptr 1 0), (11, .ptr 2 0), (13, .sl 3), (54, vi ((vals.length : Nat) : Int)), (55, vi ((k1_ : Nat) : Int)), (56, vb (decide (((k1_ : Nat) : Int) < ((vals.length : Nat) : Int))))] [(3, .row false 44 3 (a1_0.map Val.cells)), (2, .box 38 (avs (Command.cells ((rcommandM c command).1)))), (1, .box 44 (avs (Val.cells param))), (0, .box 26 (avs (Cluster.cells c)))] 4 ?_
      refine AWp.seq ?_
      refine AWp.cnd (decide (((k1_ : Nat) : Int) < ((vals.length : Nat) : Int))) (fun h12 => ?_) (fun h12 => ?_)
      ·
       have h12' := of_decide_eq_true h12
       refine AWp.skip ?_
       refine AWp.seq ?_
       refine AWp.block ?_
       refine AWp.hz [.run 2] 112 [(3, .rv (.sl 3 (vals.map Val.cells))), (4, .ptr 0 0), (6, .ptr 1 0), (11, .ptr 2 0), (13, .sl 3), (14, vi ((k1_ : Nat) : Int)), (54, vi ((vals.length : Nat) : Int)), (55, vi ((k1_ : Nat) : Int))] [(3, .row false 44 3 (a1_0.map Val.cells)), (2, .box 38 (avs (Command.cells ((rcommandM c command).1)))), (1, .box 44 (avs (Val.cells param))), (0, .box 26 (avs (Cluster.cells c)))] 4 ?_
       refine AWp.seq ?_
       obtain ⟨e1_, he1_⟩ : ∃ e_, (c.attrs)[k1_]? = some e_ := ⟨_, List.getElem?_eq_getElem (by omega)⟩
       obtain ⟨e2_, he2_⟩ : ∃ e_, (vals)[k1_]? = some e_ := ⟨_, List.getElem?_eq_getElem (by omega)⟩
       refine AWp.dz [.ptr 0 1, .rv (.sl 7 (c.attrs.map Attr.cells)), vi ((k1_ : Nat) : Int), .rv (.ptr (Attr.cells e1_)), .agg (avs (Attr.cells e1_)), .rv (.sl 3 (vals.map Val.cells)), vi ((k1_ : Nat) : Int), .rv (.ptr (Val.cells e2_)), .agg (avs (Val.cells e2_)), vi (rfitsM e1_ e2_), vb (rfitsM e1_ e2_ != 0)] 112 [(3, .rv (.sl 3 (vals.map Val.cells))), (4, .ptr 0 0), (6, .ptr 1 0), (11, .ptr 2 0), (13, .sl 3), (14, vi ((k1_ : Nat) : Int)), (54, vi ((vals.length : Nat) : Int)), (55, vi ((k1_ : Nat) : Int)), (68, vb (rfitsM e1_ e2_ != 0))] [(3, .row false 44 3 (a1_0.map Val.cells)), (2, .box 38 (avs (Command.cells ((rcommandM c command).1)))), (1, .box 44 (avs (Val.cells param))), (0, .box 26 (avs (Cluster.cells c)))] 4 ?_ ?_
       ·
        refine DSteps.cons (DStep.va) ?_
        refine DSteps.cons (DStep.va) ?_
        refine DSteps.cons (DStep.va) ?_
        refine DSteps.cons (DStep.vs (by kernel_rfl) (R_indexAddrM Attr.cells c.attrs 7 k1_ rfl (by kernel_rfl) (by kernel_rfl) (by kernel_rfl) he1_)) ?_
        refine DSteps.cons (DStep.va) ?_
        refine DSteps.cons (DStep.va) ?_
        refine DSteps.cons (DStep.va) ?_
        refine DSteps.cons (DStep.vs (by kernel_rfl) (R_indexAddrM Val.cells vals 3 k1_ rfl (by kernel_rfl) (by kernel_rfl) (by kernel_rfl) he2_)) ?_
        refine DSteps.cons (DStep.va) ?_
        refine DSteps.cons (DStep.call rfl (by kernel_rfl) (by kernel_rfl) (by kernel_rfl) (args := [.agg (avs (Attr.cells e1_)), .agg (avs (Val.cells e2_))]) (by kernel_rfl) (by kernel_rfl) (rfitsM_ok e1_ e2_) (by kernel_rfl) (Nat.le_of_ble_eq_true (by kernel_rfl))) ?_
        refine DSteps.cons (DStep.va) ?_
        exact DSteps.nl
       refine AWp.cnd ((rfitsM e1_ e2_ != 0)) (fun h13 => ?_) (fun h13 => ?_)
       ·
        refine AWp.hz [.run 2] 112 [(8, .rv (.v (.slice none 0 0))), (9, vi 1)] [] 4 ?_
        refine AWp.le (Le.nils (s' := Z 112 [(8, .rv (.sl 3 (([]).map Val.cells))), (9, vi 1)] [] 4) 8 [some 3] (by kernel_rfl)) ?_
        refine AWp.ret ?_
        have hL1_ : (rapplyM_L1 c command param vals ([])) = .inl ([], 1) := loopS_ret hs1_ (by omega) (by unfold rapplyM_B1; (try dsimp only); (try simp only [he1_]); (try simp only [he2_]); (try rw [h12]); (try rw [h13]); first | done | kernel_rfl)
        exact leafR (r := .tuple [.rv (.sl 3 (([]).map Val.cells)), vi 1]) (by show (.tuple [.rv (.sl 3 (([]).map Val.cells)), vi 1] : AV) = .tuple [.rv (.sl 3 (((rapplyM c command param vals).1).map Val.cells)), vi ((rapplyM c command param vals).2)]; unfold rapplyM; (try rw [h1]); (try rw [h2]); (try rw [hj3]); (try rw [h9]); (try rw [hL1_]); first | done | kernel_rfl)
       ·
        refine AWp.skip ?_
        refine AWp.he [.run 3, .idx Val.cells vals 3 k1_ e2_ he2_, .run 1, .lit 44 3 (List.map Val.cells [e2_]), .app Val.cells a1_0 ([e2_]) 3 44 3 32 (apSz (by simp; omega)), .run 1] 112 [(3, .rv (.sl 3 (vals.map Val.cells))), (4, .ptr 0 0), (6, .ptr 1 0), (11, .ptr 2 0), (13, .sl 3), (54, vi ((vals.length : Nat) : Int)), (55, vi ((k1_ : Nat) : Int))] [(3, .row false 44 3 ((a1_0 ++ [e2_]).map Val.cells)), (2, .box 38 (avs (Command.cells ((rcommandM c command).1)))), (1, .box 44 (avs (Val.cells param))), (0, .box 26 (avs (Cluster.cells c)))] 4 ?_
        refine AWp.he [.cast (vi (IntKind.i64.wrap (((k1_ : Nat) : Int) + 1))) (vi ((k1_ + 1 : Nat) : Int)) (congrArg vi (wrap_nat (by omega))), .run 1] 112 [(3, .rv (.sl 3 (vals.map Val.cells))), (4, .ptr 0 0), (6, .ptr 1 0), (11, .ptr 2 0), (13, .sl 3), (54, vi ((vals.length : Nat) : Int)), (55, vi ((k1_ + 1 : Nat) : Int))] [(3, .row false 44 3 ((a1_0 ++ [e2_]).map Val.cells)), (2, .box 38 (avs (Command.cells ((rcommandM c command).1)))), (1, .box 44 (avs (Val.cells param))), (0, .box 26 (avs (Cluster.cells c)))] 4 ?_
        exact ⟨(k1_ + 1, ((a1_0 ++ [e2_]))), ⟨by show k1_ + 1 ≤ _; omega, loopS_next hs1_ (by omega) (by unfold rapplyM_B1; (try dsimp only); (try simp only [he1_]); (try simp only [he2_]); (try rw [h12]); (try rw [h13]); first | done | kernel_rfl), by first | assumption | (simp only [List.length_set, List.length_append, List.length_cons, List.length_nil]; first | done | assumption | omega) | omega⟩, by show _ - (k1_ + 1) < _ - k1_; omega, leG⟩
      ·
       have h12' := of_decide_eq_false h12
       refine AWp.exit ?_
       have hq1_ : (rapplyM_L1 c command param vals ([])) = .inr (a1_0) := loopS_end hs1_ (by omega)
       exact ⟨(a1_0), ⟨hq1_, by first | assumption | (simp only [List.length_set, List.length_append, List.length_cons, List.length_nil]; first | done | assumption | omega) | omega⟩, leG⟩
     ·
      rintro a1_0 ⟨hL1_, hl1_0⟩
      try dsimp only at hl1_0
      refine AWp.seq ?_
      refine AWp.hzl [.run 2, .len Effect.cells (((rcommandM c command).1).effects) 3, .run 1] 112 [(4, .ptr 0 0), (6, .ptr 1 0), (11, .ptr 2 0), (13, .sl 3), (79, vi (((((rcommandM c command).1).effects).length : Nat) : Int)), (80, vi 0)] [(3, .row false 44 3 (a1_0.map Val.cells)), (2, .box 38 (avs (Command.cells ((rcommandM c command).1)))), (1, .box 44 (avs (Val.cells param))), (0, .box 26 (avs (Cluster.cells c)))] 4 (fun hl => ?_)
      obtain ⟨hn14, -⟩ := hl
      refine AWp.joinE1 (A := (List Val)) (fun x_ => Z 112 [(13, .sl 3)] [(3, .row false 44 3 (x_.map Val.cells))] 4) (fun x_ => x_ = (rapplyM_L2 c command param vals (a1_0)) ∧ x_.length = a1_0.length) ?_ ?_
      ·
       refine AWp.block ?_
       refine AWp.loop (ι := Nat × ((List Val))) (fun x_ => Z 112 [(4, .ptr 0 0), (6, .ptr 1 0), (11, .ptr 2 0), (13, .sl 3), (79, vi (((((rcommandM c command).1).effects).length : Nat) : Int)), (80, vi ((x_.1 : Nat) : Int))] [(3, .row false 44 3 (x_.2.map Val.cells)), (2, .box 38 (avs (Command.cells ((rcommandM c command).1)))), (1, .box 44 (avs (Val.cells param))), (0, .box 26 (avs (Cluster.cells c)))] 4) (fun x_ => x_.1 ≤ ((((rcommandM c command).1).effects).length) ∧ (rapplyM_L2 c command param vals (a1_0)) = iterN (rapplyM_B2 c command param vals) x_.1 (((((rcommandM c command).1).effects).length) - x_.1) x_.2 ∧ x_.2.length = a1_0.length) (fun x_ => ((((rcommandM c command).1).effects).length) - x_.1) (0, (a1_0)) leZ ⟨Nat.zero_le _, rfl, rfl⟩ ?_
       rintro ⟨k2_, a2_0⟩ ⟨hk2_, hs2_, hl2_0⟩
       try dsimp only at hk2_
       try dsimp only at hs2_
       try dsimp only at hl2_0
       refine AWp.cv 112 [(4, .ptr 0 0), (6, .ptr 1 0), (11, .ptr 2 0), (13, .sl 3), (79, vi (((((rcommandM c command).1).effects).length : Nat) : Int)), (80, vi ((k2_ : Nat) : Int))] [(3, .row false 44 3 (a2_0.map Val.cells)), (2, .box 38 (avs (Command.cells ((rcommandM c command).1)))), (1, .box 44 (avs (Val.cells param))), (0, .box 26 (avs (Cluster.cells c)))] 4 ?_
       refine AWp.hz [.run 1] 112 [(4, .ptr 0 0), (6, .ptr 1 0), (11, .ptr 2 0), (13, .sl 3), (79, vi (((((rcommandM c command).1).effects).length : Nat) : Int)), (80, vi ((k2_ : Nat) : Int)), (81, vb (decide (((k2_ : Nat) : Int) < (((((rcommandM c command).1).effects).length : Nat) : Int))))] [(3, .row false 44 3 (a2_0.map Val.cells)), (2, .box 38 (avs (Command.cells ((rcommandM c command).1)))), (1, .box 44 (avs (Val.cells param))), (0, .box 26 (avs (Cluster.cells c)))] 4 ?_
       refine AWp.seq ?_
       refine AWp.cnd (decide (((k2_ : Nat) : Int) < (((((rcommandM c command).1).effects).length : Nat) : Int))) (fun h15 => ?_) (fun h15 => ?_)
       ·
        have h15' := of_decide_eq_true h15
        refine AWp.skip ?_
        refine AWp.seq ?_
        refine AWp.block ?_
        refine AWp.hz [.run 2] 112 [(4, .ptr 0 0), (6, .ptr 1 0), (11, .ptr 2 0), (13, .sl 3), (15, vi ((k2_ : Nat) : Int)), (79, vi (((((rcommandM c command).1).effects).length : Nat) : Int)), (80, vi ((k2_ : Nat) : Int))] [(3, .row false 44 3 (a2_0.map Val.cells)), (2, .box 38 (avs (Command.cells ((rcommandM c command).1)))), (1, .box 44 (avs (Val.cells param))), (0, .box 26 (avs (Cluster.cells c)))] 4 ?_
        obtain ⟨e3_, he3_⟩ : ∃ e_, (((rcommandM c command).1).effects)[k2_]? = some e_ := ⟨_, List.getElem?_eq_getElem (by omega)⟩
        refine AWp.dz [.agg (avs (Cluster.cells c)), .ptr 2 8, .rv (.sl 3 ((((rcommandM c command).1).effects).map Effect.cells)), vi ((k2_ : Nat) : Int), .rv (.ptr (Effect.cells e3_)), .rv (.ptr [.v (.string e3_.attr), .v (.int .i64 e3_.n)]), vs e3_.attr, vi (placeM c e3_.attr), vi (placeM c e3_.attr)] 112 [(4, .ptr 0 0), (6, .ptr 1 0), (11, .ptr 2 0), (13, .sl 3), (15, vi ((k2_ : Nat) : Int)), (16, vi (placeM c e3_.attr)), (79, vi (((((rcommandM c command).1).effects).length : Nat) : Int)), (80, vi ((k2_ : Nat) : Int))] [(3, .row false 44 3 (a2_0.map Val.cells)), (2, .box 38 (avs (Command.cells ((rcommandM c command).1)))), (1, .box 44 (avs (Val.cells param))), (0, .box 26 (avs (Cluster.cells c)))] 4 ?_ ?_
        ·
         refine DSteps.cons (DStep.va) ?_
         refine DSteps.cons (DStep.va) ?_
         refine DSteps.cons (DStep.va) ?_
         refine DSteps.cons (DStep.va) ?_
         refine DSteps.cons (DStep.vs (by kernel_rfl) (R_indexAddrM Effect.cells (((rcommandM c command).1).effects) 3 k2_ rfl (by kernel_rfl) (by kernel_rfl) (by kernel_rfl) he3_)) ?_
         refine DSteps.cons (DStep.va) ?_
         refine DSteps.cons (DStep.va) ?_
         refine DSteps.cons (DStep.call rfl (by kernel_rfl) (by kernel_rfl) (by kernel_rfl) (args := [.agg (avs (Cluster.cells c)), vs e3_.attr]) (by kernel_rfl) (by kernel_rfl) (placeM_ok c e3_.attr) (by kernel_rfl) (Nat.le_of_ble_eq_true (by kernel_rfl))) ?_
         refine DSteps.cons (DStep.va) ?_
         exact DSteps.nl
        have := place_of (by assumption) (by assumption) he3_
        have := placeM_lt c e3_.attr
        have ht16 : (placeM c e3_.attr) = (((placeM c e3_.attr).toNat : Nat) : Int) := (Int.toNat_of_nonneg (by omega)).symm
        have := place_of (by assumption) (by assumption) he3_
        have := placeM_lt c e3_.attr
        have ht17 : (placeM c e3_.attr) = (((placeM c e3_.attr).toNat : Nat) : Int) := (Int.toNat_of_nonneg (by omega)).symm
        obtain ⟨e4_, he4_⟩ : ∃ e_, (c.attrs)[(placeM c e3_.attr).toNat]? = some e_ := ⟨_, List.getElem?_eq_getElem (by omega)⟩
        have := place_of (by assumption) (by assumption) he3_
        have := placeM_lt c e3_.attr
        have ht18 : (placeM c e3_.attr) = (((placeM c e3_.attr).toNat : Nat) : Int) := (Int.toNat_of_nonneg (by omega)).symm
        have hi19 : (placeM c e3_.attr).toNat < a2_0.length := by first | omega | (simp only [List.length_set, List.length_append, List.length_cons, List.length_nil] at *; omega)
        obtain ⟨e6_, he6_⟩ : ∃ e_, (a2_0)[(placeM c e3_.attr).toNat]? = some e_ := ⟨_, List.getElem?_eq_getElem (by omega)⟩
        have hi20 : (placeM c e3_.attr).toNat < a2_0.length := by first | omega | (simp only [List.length_set, List.length_append, List.length_cons, List.length_nil] at *; omega)
        refine AWp.dzT 19 [.sl 3, vi (((placeM c e3_.attr).toNat : Nat) : Int), .ptr 2 8, .rv (.sl 3 ((((rcommandM c command).1).effects).map Effect.cells)), vi ((k2_ : Nat) : Int), .rv (.ptr (Effect.cells e3_)), .agg (avs (Effect.cells e3_)), .ptr 0 1, .rv (.sl 7 (c.attrs.map Attr.cells)), vi (((placeM c e3_.attr).toNat : Nat) : Int), .rv (.ptr (Attr.cells e4_)), .agg (avs (Attr.cells e4_)), .agg (avs (Val.cells param)), .sl 3, vi (((placeM c e3_.attr).toNat : Nat) : Int), .eptr 3 ((placeM c e3_.attr).toNat) 0, .agg (avs (Val.cells e6_)), .agg (avs (Val.cells (doneM e3_ e4_ param e6_))), .eptr 3 ((placeM c e3_.attr).toNat) 0] 112 [(4, .ptr 0 0), (6, .ptr 1 0), (11, .ptr 2 0), (13, .sl 3), (79, vi (((((rcommandM c command).1).effects).length : Nat) : Int)), (80, vi ((k2_ : Nat) : Int)), (108, .agg (avs (Val.cells (doneM e3_ e4_ param e6_)))), (109, .eptr 3 ((placeM c e3_.attr).toNat) 0)] [(3, .row false 44 3 (a2_0.map Val.cells)), (2, .box 38 (avs (Command.cells ((rcommandM c command).1)))), (1, .box 44 (avs (Val.cells param))), (0, .box 26 (avs (Cluster.cells c)))] 4 ?_ ?_
        ·
         refine DSteps.cons (DStep.va) ?_
         refine DSteps.cons ((DStep.val (v := vi (placeM c e3_.attr)) (by kernel_rfl) (by kernel_rfl)).cast (congrArg vi ht16)) ?_
         refine DSteps.cons (DStep.va) ?_
         refine DSteps.cons (DStep.va) ?_
         refine DSteps.cons (DStep.va) ?_
         refine DSteps.cons (DStep.vs (by kernel_rfl) (R_indexAddrM Effect.cells (((rcommandM c command).1).effects) 3 k2_ rfl (by kernel_rfl) (by kernel_rfl) (by kernel_rfl) he3_)) ?_
         refine DSteps.cons (DStep.va) ?_
         refine DSteps.cons (DStep.va) ?_
         refine DSteps.cons (DStep.va) ?_
         refine DSteps.cons ((DStep.val (v := vi (placeM c e3_.attr)) (by kernel_rfl) (by kernel_rfl)).cast (congrArg vi ht17)) ?_
         refine DSteps.cons (DStep.vs (by kernel_rfl) (R_indexAddrM Attr.cells c.attrs 7 ((placeM c e3_.attr).toNat) rfl (by kernel_rfl) (by kernel_rfl) (by kernel_rfl) he4_)) ?_
         refine DSteps.cons (DStep.va) ?_
         refine DSteps.cons (DStep.va) ?_
         refine DSteps.cons (DStep.va) ?_
         refine DSteps.cons ((DStep.val (v := vi (placeM c e3_.attr)) (by kernel_rfl) (by kernel_rfl)).cast (congrArg vi ht18)) ?_
         refine DSteps.cons (DStep.vs (by kernel_rfl) (R_indexAddrRow Val.cells a2_0 3 3 ((placeM c e3_.attr).toNat) (bt := 44) rfl (by kernel_rfl) (by kernel_rfl) (by kernel_rfl) (by kernel_rfl) hi19)) ?_
         refine DSteps.cons (DStep.vs (by kernel_rfl) (R_loadRow Val.cells a2_0 3 3 ((placeM c e3_.attr).toNat) 0 3 (bt := 44) rfl (by kernel_rfl) (by kernel_rfl) (by kernel_rfl) he6_ (by kernel_rfl) (by kernel_rfl) rfl)) ?_
         refine DSteps.cons (DStep.call rfl (by kernel_rfl) (by kernel_rfl) (by kernel_rfl) (args := [.agg (avs (Effect.cells e3_)), .agg (avs (Attr.cells e4_)), .agg (avs (Val.cells param)), .agg (avs (Val.cells e6_))]) (by kernel_rfl) (by kernel_rfl) (doneM_ok e3_ e4_ param e6_) (by kernel_rfl) (Nat.le_of_ble_eq_true (by kernel_rfl))) ?_
         refine DSteps.cons (DStep.vs (by kernel_rfl) (R_indexAddrRow Val.cells a2_0 3 3 ((placeM c e3_.attr).toNat) (bt := 44) rfl (by kernel_rfl) (by kernel_rfl) (by kernel_rfl) (by kernel_rfl) hi20)) ?_
         exact DSteps.nl
        refine AOps.he [.stR Val.cells a2_0 3 3 ((placeM c e3_.attr).toNat) 0 e6_ (doneM e3_ e4_ param e6_) he6_] 112 [(4, .ptr 0 0), (6, .ptr 1 0), (11, .ptr 2 0), (13, .sl 3), (79, vi (((((rcommandM c command).1).effects).length : Nat) : Int)), (80, vi ((k2_ : Nat) : Int))] [(3, .row false 44 3 ((a2_0.set ((placeM c e3_.attr).toNat) (doneM e3_ e4_ param e6_)).map Val.cells)), (2, .box 38 (avs (Command.cells ((rcommandM c command).1)))), (1, .box 44 (avs (Val.cells param))), (0, .box 26 (avs (Cluster.cells c)))] 4 ?_
        refine AWp.he [.cast (vi (IntKind.i64.wrap (((k2_ : Nat) : Int) + 1))) (vi ((k2_ + 1 : Nat) : Int)) (congrArg vi (wrap_nat (by omega))), .run 1] 112 [(4, .ptr 0 0), (6, .ptr 1 0), (11, .ptr 2 0), (13, .sl 3), (79, vi (((((rcommandM c command).1).effects).length : Nat) : Int)), (80, vi ((k2_ + 1 : Nat) : Int))] [(3, .row false 44 3 ((a2_0.set ((placeM c e3_.attr).toNat) (doneM e3_ e4_ param e6_)).map Val.cells)), (2, .box 38 (avs (Command.cells ((rcommandM c command).1)))), (1, .box 44 (avs (Val.cells param))), (0, .box 26 (avs (Cluster.cells c)))] 4 ?_
        exact ⟨(k2_ + 1, ((a2_0.set ((placeM c e3_.attr).toNat) (doneM e3_ e4_ param e6_)))), ⟨by show k2_ + 1 ≤ _; omega, iterN_next hs2_ (by omega) (by unfold rapplyM_B2; (try dsimp only); (try simp only [he3_]); (try simp only [he4_]); (try simp only [he6_]); (try rw [h15]); first | done | kernel_rfl), by first | assumption | (simp only [List.length_set, List.length_append, List.length_cons, List.length_nil]; first | done | assumption | omega) | omega⟩, by show _ - (k2_ + 1) < _ - k2_; omega, leG⟩
       ·
        have h15' := of_decide_eq_false h15
        refine AWp.exit ?_
        have hq2_ : (a2_0) = (rapplyM_L2 c command param vals (a1_0)) := iterN_end hs2_ (by omega)
        exact ⟨(a2_0), ⟨hq2_, by first | assumption | (simp only [List.length_set, List.length_append, List.length_cons, List.length_nil]; first | done | assumption | omega) | omega⟩, leG⟩
      ·
       rintro _ ⟨rfl, hl2_0⟩
       try dsimp only at hl2_0
       refine AWp.hz [.run 3] 112 [(8, .sl 3), (9, vi 0)] [(3, .row false 44 3 ((rapplyM_L2 c command param vals (a1_0)).map Val.cells))] 4 ?_
       refine AWp.le (Le.frz _ 3) ?_
       refine AWp.cv 112 [(8, .rv (.sl 3 ((rapplyM_L2 c command param vals (a1_0)).map Val.cells))), (9, vi 0)] [] 4 ?_
       refine AWp.ret ?_
       exact leafR (r := .tuple [.rv (.sl 3 ((rapplyM_L2 c command param vals (a1_0)).map Val.cells)), vi 0]) (by show (.tuple [.rv (.sl 3 ((rapplyM_L2 c command param vals (a1_0)).map Val.cells)), vi 0] : AV) = .tuple [.rv (.sl 3 (((rapplyM c command param vals).1).map Val.cells)), vi ((rapplyM c command param vals).2)]; unfold rapplyM; (try rw [h1]); (try rw [h2]); (try rw [hj3]); (try rw [h9]); (try rw [hL1_]); first | done | kernel_rfl)
end Go.Proofs.YtelohjccoimnaaaDoor
