/- Lists of clusters, equality: the contracts. -/
import Derived.Test.YtelohjccoimnaaaDoorA6
namespace Go.Proofs.YtelohjccoimnaaaDoor
open Go Go.Av Go.Hh Go.Proofs
set_option maxRecDepth 100000
set_option maxHeartbeats 4000000
def sameValuesM_B1 (l m : List Val) (k1_ : Nat) : Option Bool :=
  (match (l)[k1_]? with | some e1_ => (match (m)[k1_]? with | some e2_ => (bif !((e1_.kind == e2_.kind) && ((e1_.n == e2_.n) && (beqS e1_.s e2_.s && true))) then some false else none) | none => none) | none => none)
def sameValuesM_L1 (l m : List Val) : Option Bool := scanN (sameValuesM_B1 l m) 0 l.length
def sameValuesM (l m : List Val) : Bool :=
  (bif (((l.length : Nat) : Int) != ((m.length : Nat) : Int)) then false else (sameValuesM_L1 l m).getD true)
theorem sameValuesM_ok (l m : List Val) :
 ACalls Tryd.prog G_ 23 [.rv (.sl 3 (l.map Val.cells)), .rv (.sl 3 (m.map Val.cells))] [] 0 (fun r τ => r = vb (sameValuesM l m) ∧ τ = []) := by
 refine ACalls.body Tryd.func23 rfl 26 [(0, .rv (.sl 3 (l.map Val.cells))), (1, .rv (.sl 3 (m.map Val.cells)))] ?_
 refine AWp.hz [.run 1] 26 [(0, .rv (.sl 3 (l.map Val.cells))), (1, .rv (.sl 3 (m.map Val.cells)))] [] 0 ?_
 refine AWp.seq ?_
 refine AWp.hzl [.run 1, .len Val.cells l 3, .run 1, .len Val.cells m 3, .run 1] 26 [(0, .rv (.sl 3 (l.map Val.cells))), (1, .rv (.sl 3 (m.map Val.cells))), (10, vb (((l.length : Nat) : Int) != ((m.length : Nat) : Int)))] [] 0 (fun hl => ?_)
 obtain ⟨hn1, hn2, -⟩ := hl
 refine AWp.cnd ((((l.length : Nat) : Int) != ((m.length : Nat) : Int))) (fun h3 => ?_) (fun h3 => ?_)
 ·
  have h3' := bne_t h3
  refine AWp.hz [.run 1] 26 [(4, vb false)] [] 0 ?_
  refine AWp.ret ?_
  exact leafR (r := vb false) (by unfold sameValuesM; (try rw [h3]); first | done | kernel_rfl)
 ·
  have h3' := bne_f h3
  refine AWp.skip ?_
  refine AWp.seq ?_
  refine AWp.hzl [.run 1, .len Val.cells l 3, .run 1] 26 [(0, .rv (.sl 3 (l.map Val.cells))), (1, .rv (.sl 3 (m.map Val.cells))), (12, vi ((l.length : Nat) : Int)), (13, vi 0)] [] 0 (fun hl => ?_)
  obtain ⟨hn4, -⟩ := hl
  refine AWp.block ?_
  refine AWp.loop (ι := Nat) (fun k1_ => Z 26 [(0, .rv (.sl 3 (l.map Val.cells))), (1, .rv (.sl 3 (m.map Val.cells))), (12, vi ((l.length : Nat) : Int)), (13, vi ((k1_ : Nat) : Int))] [] 0) (fun k1_ => k1_ ≤ l.length ∧ sameValuesM_L1 l m = scanN (sameValuesM_B1 l m) k1_ (l.length - k1_)) (fun k1_ => l.length - k1_) 0 leZ ⟨Nat.zero_le _, rfl⟩ ?_
  intro k1_ ⟨hk1_, hs1_⟩
  refine AWp.hz [.run 1] 26 [(0, .rv (.sl 3 (l.map Val.cells))), (1, .rv (.sl 3 (m.map Val.cells))), (12, vi ((l.length : Nat) : Int)), (13, vi ((k1_ : Nat) : Int)), (14, vb (decide (((k1_ : Nat) : Int) < ((l.length : Nat) : Int))))] [] 0 ?_
  refine AWp.seq ?_
  refine AWp.cnd (decide (((k1_ : Nat) : Int) < ((l.length : Nat) : Int))) (fun h5 => ?_) (fun h5 => ?_)
  ·
   have h5' := of_decide_eq_true h5
   refine AWp.skip ?_
   refine AWp.seq ?_
   refine AWp.block ?_
   refine AWp.hz [.run 2] 26 [(0, .rv (.sl 3 (l.map Val.cells))), (1, .rv (.sl 3 (m.map Val.cells))), (5, vi ((k1_ : Nat) : Int)), (12, vi ((l.length : Nat) : Int)), (13, vi ((k1_ : Nat) : Int))] [] 0 ?_
   obtain ⟨e1_, he1_⟩ : ∃ e_, (l)[k1_]? = some e_ := ⟨_, List.getElem?_eq_getElem (by omega)⟩
   obtain ⟨e2_, he2_⟩ : ∃ e_, (m)[k1_]? = some e_ := ⟨_, List.getElem?_eq_getElem (by omega)⟩
   refine AWp.dz [.rv (.sl 3 (l.map Val.cells)), vi ((k1_ : Nat) : Int), .rv (.ptr (Val.cells e1_)), .agg (avs (Val.cells e1_)), .rv (.sl 3 (m.map Val.cells)), vi ((k1_ : Nat) : Int), .rv (.ptr (Val.cells e2_)), .agg (avs (Val.cells e2_)), vb (!((e1_.kind == e2_.kind) && ((e1_.n == e2_.n) && (beqS e1_.s e2_.s && true))))] 26 [(0, .rv (.sl 3 (l.map Val.cells))), (1, .rv (.sl 3 (m.map Val.cells))), (12, vi ((l.length : Nat) : Int)), (13, vi ((k1_ : Nat) : Int)), (24, vb (!((e1_.kind == e2_.kind) && ((e1_.n == e2_.n) && (beqS e1_.s e2_.s && true)))))] [] 0 ?_ ?_
   ·
    refine DSteps.cons (DStep.va) ?_
    refine DSteps.cons (DStep.va) ?_
    refine DSteps.cons (DStep.vs (by kernel_rfl) (R_indexAddrM Val.cells l 3 k1_ rfl (by kernel_rfl) (by kernel_rfl) (by kernel_rfl) he1_)) ?_
    refine DSteps.cons (DStep.va) ?_
    refine DSteps.cons (DStep.va) ?_
    refine DSteps.cons (DStep.va) ?_
    refine DSteps.cons (DStep.vs (by kernel_rfl) (R_indexAddrM Val.cells m 3 k1_ rfl (by kernel_rfl) (by kernel_rfl) (by kernel_rfl) he2_)) ?_
    refine DSteps.cons (DStep.va) ?_
    refine DSteps.cons (DStep.va) ?_
    exact DSteps.nl
   refine AWp.cnd (!((e1_.kind == e2_.kind) && ((e1_.n == e2_.n) && (beqS e1_.s e2_.s && true)))) (fun h6 => ?_) (fun h6 => ?_)
   ·
    refine AWp.hz [.run 1] 26 [(4, vb false)] [] 0 ?_
    refine AWp.ret ?_
    have hL1_ : sameValuesM_L1 l m = some false := scanN_some hs1_ (by omega) (by unfold sameValuesM_B1; (try simp only [he1_]); (try simp only [he2_]); (try rw [h5]); (try rw [h6]); first | done | kernel_rfl)
    exact leafR (r := vb false) (by unfold sameValuesM; (try rw [h3]); (try rw [hL1_]); first | done | kernel_rfl)
   ·
    refine AWp.skip ?_
    refine AWp.he [.cast (vi (IntKind.i64.wrap (((k1_ : Nat) : Int) + 1))) (vi ((k1_ + 1 : Nat) : Int)) (congrArg vi (wrap_nat (by omega))), .run 1] 26 [(0, .rv (.sl 3 (l.map Val.cells))), (1, .rv (.sl 3 (m.map Val.cells))), (12, vi ((l.length : Nat) : Int)), (13, vi ((k1_ + 1 : Nat) : Int))] [] 0 ?_
    exact ⟨k1_ + 1, ⟨by omega, scanN_none hs1_ (by omega) (by unfold sameValuesM_B1; (try simp only [he1_]); (try simp only [he2_]); (try rw [h5]); (try rw [h6]); first | done | kernel_rfl)⟩, by omega, leG⟩
  ·
   have h5' := of_decide_eq_false h5
   refine AWp.exit ?_
   have hL1_ : sameValuesM_L1 l m = none := scanN_end hs1_ (by omega)
   refine AWp.hz [.run 1] 26 [(4, vb true)] [] 0 ?_
   refine AWp.ret ?_
   exact leafR (r := vb true) (by unfold sameValuesM; (try rw [h3]); (try rw [hL1_]); first | done | kernel_rfl)
def sameCommandM_B1 (a b : Command) (k1_ : Nat) : Option Bool :=
  (match (a.effects)[k1_]? with | some e1_ => (match (b.effects)[k1_]? with | some e2_ => (bif !((e1_.kind == e2_.kind) && (beqS e1_.attr e2_.attr && ((e1_.n == e2_.n) && true))) then some false else none) | none => none) | none => none)
def sameCommandM_L1 (a b : Command) : Option Bool := scanN (sameCommandM_B1 a b) 0 a.effects.length
def sameCommandM (a b : Command) : Bool :=
  (bif ((!beqS a.name b.name || !(sameAttrM a.param b.param)) || (((a.effects.length : Nat) : Int) != ((b.effects.length : Nat) : Int))) then false else (sameCommandM_L1 a b).getD true)
theorem sameCommandM_ok (a b : Command) :
 ACalls Tryd.prog G_ 20 [.agg (avs (Command.cells a)), .agg (avs (Command.cells b))] [] 0 (fun r τ => r = vb (sameCommandM a b) ∧ τ = []) := by
 refine ACalls.body Tryd.func20 rfl 46 [(0, .agg (avs (Command.cells a))), (1, .agg (avs (Command.cells b)))] ?_
 refine AWp.hz [.run 3] 46 [(2, .ptr 0 0), (3, .ptr 1 0)] [(1, .box 38 (avs (Command.cells b))), (0, .box 38 (avs (Command.cells a)))] 2 ?_
 refine AWp.seq ?_
 refine AWp.join (Z 46 [(2, .ptr 0 0), (3, .ptr 1 0), (27, vb ((!beqS a.name b.name || !(sameAttrM a.param b.param)) || (((a.effects.length : Nat) : Int) != ((b.effects.length : Nat) : Int))))] [(1, .box 38 (avs (Command.cells b))), (0, .box 38 (avs (Command.cells a)))] 2) ?_ ?_
 ·
  refine AWp.region ?_
  refine AOps.hg [.run 6] (!beqS a.name b.name) 46 (fun b_ => [(2, .ptr 0 0), (3, .ptr 1 0), (11, vb b_)]) [(1, .box 38 (avs (Command.cells b))), (0, .box 38 (avs (Command.cells a)))] 2 (fun hg1 => ?_) (fun hg1 => ?_)
  ·
   refine AOps.he [.run 16] 46 [(2, .ptr 0 0), (3, .ptr 1 0), (27, vb true)] [(1, .box 38 (avs (Command.cells b))), (0, .box 38 (avs (Command.cells a)))] 2 ?_
   exact leZ (by rw [hg1]; first | done | kernel_rfl)
  ·
   refine AOps.hg [.run 4, .call 17 [.agg [vs a.param.name, vi a.param.kind, vi a.param.min, vi a.param.max, .rv (.sl 1 (a.param.enum.map strC)), vb a.param.writable, vb a.param.safety], .agg [vs b.param.name, vi b.param.kind, vi b.param.min, vi b.param.max, .rv (.sl 1 (b.param.enum.map strC)), vb b.param.writable, vb b.param.safety]] (vb (sameAttrM a.param b.param)) [] 0 (sameAttrM_ok a.param b.param), .run 3] (!(sameAttrM a.param b.param)) 46 (fun b_ => [(2, .ptr 0 0), (3, .ptr 1 0), (19, vb b_)]) [(1, .box 38 (avs (Command.cells b))), (0, .box 38 (avs (Command.cells a)))] 2 (fun hg2 => ?_) (fun hg2 => ?_)
   ·
    refine AOps.he [.run 8] 46 [(2, .ptr 0 0), (3, .ptr 1 0), (27, vb true)] [(1, .box 38 (avs (Command.cells b))), (0, .box 38 (avs (Command.cells a)))] 2 ?_
    exact leZ (by rw [hg1, hg2]; first | done | kernel_rfl)
   ·
    refine AOps.hel [.run 2, .len Effect.cells a.effects 3, .run 2, .len Effect.cells b.effects 3, .run 2] 46 [(2, .ptr 0 0), (3, .ptr 1 0), (27, vb (((a.effects.length : Nat) : Int) != ((b.effects.length : Nat) : Int)))] [(1, .box 38 (avs (Command.cells b))), (0, .box 38 (avs (Command.cells a)))] 2 (fun hl => ?_)
    obtain ⟨hn3, hn4, -⟩ := hl
    exact leZ (by rw [hg1, hg2]; first | done | kernel_rfl)
 ·
  refine AWp.cnd (((!beqS a.name b.name || !(sameAttrM a.param b.param)) || (((a.effects.length : Nat) : Int) != ((b.effects.length : Nat) : Int)))) (fun h5 => ?_) (fun h5 => ?_)
  ·
   refine AWp.hz [.run 1] 46 [(4, vb false)] [] 2 ?_
   refine AWp.ret ?_
   exact leafR (r := vb false) (by unfold sameCommandM; (try rw [h5]); first | done | kernel_rfl)
  ·
   have h5l := or_fl h5
   have h5r := or_fr h5
   have h5r' := bne_f h5r
   refine AWp.skip ?_
   refine AWp.seq ?_
   refine AWp.hzl [.run 2, .len Effect.cells a.effects 3, .run 1] 46 [(2, .ptr 0 0), (3, .ptr 1 0), (30, vi ((a.effects.length : Nat) : Int)), (31, vi 0)] [(1, .box 38 (avs (Command.cells b))), (0, .box 38 (avs (Command.cells a)))] 2 (fun hl => ?_)
   obtain ⟨hn6, -⟩ := hl
   refine AWp.block ?_
   refine AWp.loop (ι := Nat) (fun k1_ => Z 46 [(2, .ptr 0 0), (3, .ptr 1 0), (30, vi ((a.effects.length : Nat) : Int)), (31, vi ((k1_ : Nat) : Int))] [(1, .box 38 (avs (Command.cells b))), (0, .box 38 (avs (Command.cells a)))] 2) (fun k1_ => k1_ ≤ a.effects.length ∧ sameCommandM_L1 a b = scanN (sameCommandM_B1 a b) k1_ (a.effects.length - k1_)) (fun k1_ => a.effects.length - k1_) 0 leZ ⟨Nat.zero_le _, rfl⟩ ?_
   intro k1_ ⟨hk1_, hs1_⟩
   refine AWp.hz [.run 1] 46 [(2, .ptr 0 0), (3, .ptr 1 0), (30, vi ((a.effects.length : Nat) : Int)), (31, vi ((k1_ : Nat) : Int)), (32, vb (decide (((k1_ : Nat) : Int) < ((a.effects.length : Nat) : Int))))] [(1, .box 38 (avs (Command.cells b))), (0, .box 38 (avs (Command.cells a)))] 2 ?_
   refine AWp.seq ?_
   refine AWp.cnd (decide (((k1_ : Nat) : Int) < ((a.effects.length : Nat) : Int))) (fun h7 => ?_) (fun h7 => ?_)
   ·
    have h7' := of_decide_eq_true h7
    refine AWp.skip ?_
    refine AWp.seq ?_
    refine AWp.block ?_
    refine AWp.hz [.run 2] 46 [(2, .ptr 0 0), (3, .ptr 1 0), (5, vi ((k1_ : Nat) : Int)), (30, vi ((a.effects.length : Nat) : Int)), (31, vi ((k1_ : Nat) : Int))] [(1, .box 38 (avs (Command.cells b))), (0, .box 38 (avs (Command.cells a)))] 2 ?_
    obtain ⟨e1_, he1_⟩ : ∃ e_, (a.effects)[k1_]? = some e_ := ⟨_, List.getElem?_eq_getElem (by omega)⟩
    obtain ⟨e2_, he2_⟩ : ∃ e_, (b.effects)[k1_]? = some e_ := ⟨_, List.getElem?_eq_getElem (by omega)⟩
    refine AWp.dz [.ptr 0 8, .rv (.sl 3 (a.effects.map Effect.cells)), vi ((k1_ : Nat) : Int), .rv (.ptr (Effect.cells e1_)), .agg (avs (Effect.cells e1_)), .ptr 1 8, .rv (.sl 3 (b.effects.map Effect.cells)), vi ((k1_ : Nat) : Int), .rv (.ptr (Effect.cells e2_)), .agg (avs (Effect.cells e2_)), vb (!((e1_.kind == e2_.kind) && (beqS e1_.attr e2_.attr && ((e1_.n == e2_.n) && true))))] 46 [(2, .ptr 0 0), (3, .ptr 1 0), (30, vi ((a.effects.length : Nat) : Int)), (31, vi ((k1_ : Nat) : Int)), (44, vb (!((e1_.kind == e2_.kind) && (beqS e1_.attr e2_.attr && ((e1_.n == e2_.n) && true)))))] [(1, .box 38 (avs (Command.cells b))), (0, .box 38 (avs (Command.cells a)))] 2 ?_ ?_
    ·
     refine DSteps.cons (DStep.va) ?_
     refine DSteps.cons (DStep.va) ?_
     refine DSteps.cons (DStep.va) ?_
     refine DSteps.cons (DStep.vs (by kernel_rfl) (R_indexAddrM Effect.cells a.effects 3 k1_ rfl (by kernel_rfl) (by kernel_rfl) (by kernel_rfl) he1_)) ?_
     refine DSteps.cons (DStep.va) ?_
     refine DSteps.cons (DStep.va) ?_
     refine DSteps.cons (DStep.va) ?_
     refine DSteps.cons (DStep.va) ?_
     refine DSteps.cons (DStep.vs (by kernel_rfl) (R_indexAddrM Effect.cells b.effects 3 k1_ rfl (by kernel_rfl) (by kernel_rfl) (by kernel_rfl) he2_)) ?_
     refine DSteps.cons (DStep.va) ?_
     refine DSteps.cons (DStep.va) ?_
     exact DSteps.nl
    refine AWp.cnd (!((e1_.kind == e2_.kind) && (beqS e1_.attr e2_.attr && ((e1_.n == e2_.n) && true)))) (fun h8 => ?_) (fun h8 => ?_)
    ·
     refine AWp.hz [.run 1] 46 [(4, vb false)] [] 2 ?_
     refine AWp.ret ?_
     have hL1_ : sameCommandM_L1 a b = some false := scanN_some hs1_ (by omega) (by unfold sameCommandM_B1; (try simp only [he1_]); (try simp only [he2_]); (try rw [h7]); (try rw [h8]); first | done | kernel_rfl)
     exact leafR (r := vb false) (by unfold sameCommandM; (try rw [h5]); (try rw [hL1_]); first | done | kernel_rfl)
    ·
     refine AWp.skip ?_
     refine AWp.he [.cast (vi (IntKind.i64.wrap (((k1_ : Nat) : Int) + 1))) (vi ((k1_ + 1 : Nat) : Int)) (congrArg vi (wrap_nat (by omega))), .run 1] 46 [(2, .ptr 0 0), (3, .ptr 1 0), (30, vi ((a.effects.length : Nat) : Int)), (31, vi ((k1_ + 1 : Nat) : Int))] [(1, .box 38 (avs (Command.cells b))), (0, .box 38 (avs (Command.cells a)))] 2 ?_
     exact ⟨k1_ + 1, ⟨by omega, scanN_none hs1_ (by omega) (by unfold sameCommandM_B1; (try simp only [he1_]); (try simp only [he2_]); (try rw [h7]); (try rw [h8]); first | done | kernel_rfl)⟩, by omega, leG⟩
   ·
    have h7' := of_decide_eq_false h7
    refine AWp.exit ?_
    have hL1_ : sameCommandM_L1 a b = none := scanN_end hs1_ (by omega)
    refine AWp.hz [.run 1] 46 [(4, vb true)] [] 2 ?_
    refine AWp.ret ?_
    exact leafR (r := vb true) (by unfold sameCommandM; (try rw [h5]); (try rw [hL1_]); first | done | kernel_rfl)
def sameClusterM_B1 (a b : Cluster) (k1_ : Nat) : Option Bool :=
  (match (a.attrs)[k1_]? with | some e1_ => (match (b.attrs)[k1_]? with | some e2_ => (bif !(sameAttrM e1_ e2_) then some false else none) | none => none) | none => none)
def sameClusterM_L1 (a b : Cluster) : Option Bool := scanN (sameClusterM_B1 a b) 0 a.attrs.length
def sameClusterM_B2 (a b : Cluster) (k2_ : Nat) : Option Bool :=
  (match (a.commands)[k2_]? with | some e3_ => (match (b.commands)[k2_]? with | some e4_ => (bif !(sameCommandM e3_ e4_) then some false else none) | none => none) | none => none)
def sameClusterM_L2 (a b : Cluster) : Option Bool := scanN (sameClusterM_B2 a b) 0 a.commands.length
def sameClusterM (a b : Cluster) : Bool :=
  (bif ((!beqS a.name b.name || ((((a.attrs.length : Nat) : Int) != ((b.attrs.length : Nat) : Int)) || (((a.commands.length : Nat) : Int) != ((b.commands.length : Nat) : Int)))) || !(sameNamesM a.events b.events)) then false else (sameClusterM_L1 a b).getD ((sameClusterM_L2 a b).getD true))
theorem sameClusterM_ok (a b : Cluster) :
 ACalls Tryd.prog G_ 29 [.agg (avs (Cluster.cells a)), .agg (avs (Cluster.cells b))] [] 0 (fun r τ => r = vb (sameClusterM a b) ∧ τ = []) := by
 refine ACalls.body Tryd.func29 rfl 76 [(0, .agg (avs (Cluster.cells a))), (1, .agg (avs (Cluster.cells b)))] ?_
 refine AWp.hz [.run 3] 76 [(2, .ptr 0 0), (3, .ptr 1 0)] [(1, .box 26 (avs (Cluster.cells b))), (0, .box 26 (avs (Cluster.cells a)))] 2 ?_
 refine AWp.seq ?_
 refine AWp.join (Z 76 [(2, .ptr 0 0), (3, .ptr 1 0), (37, vb ((!beqS a.name b.name || ((((a.attrs.length : Nat) : Int) != ((b.attrs.length : Nat) : Int)) || (((a.commands.length : Nat) : Int) != ((b.commands.length : Nat) : Int)))) || !(sameNamesM a.events b.events)))] [(1, .box 26 (avs (Cluster.cells b))), (0, .box 26 (avs (Cluster.cells a)))] 2) ?_ ?_
 ·
  refine AWp.region ?_
  refine AOps.hg [.run 6] (!beqS a.name b.name) 76 (fun b_ => [(2, .ptr 0 0), (3, .ptr 1 0), (12, vb b_)]) [(1, .box 26 (avs (Cluster.cells b))), (0, .box 26 (avs (Cluster.cells a)))] 2 (fun hg1 => ?_) (fun hg1 => ?_)
  ·
   refine AOps.he [.run 25] 76 [(2, .ptr 0 0), (3, .ptr 1 0), (37, vb true)] [(1, .box 26 (avs (Cluster.cells b))), (0, .box 26 (avs (Cluster.cells a)))] 2 ?_
   exact leZ (by rw [hg1]; first | done | kernel_rfl)
  ·
   refine AOps.hzl [.run 2, .len Attr.cells a.attrs 7, .run 2, .len Attr.cells b.attrs 7, .run 3] 76 [(2, .ptr 0 0), (3, .ptr 1 0), (21, vb (((a.attrs.length : Nat) : Int) != ((b.attrs.length : Nat) : Int)))] [(1, .box 26 (avs (Cluster.cells b))), (0, .box 26 (avs (Cluster.cells a)))] 2 (fun hl => ?_)
   obtain ⟨hn2, hn3, -⟩ := hl
   refine AOps.hg [] ((((a.attrs.length : Nat) : Int) != ((b.attrs.length : Nat) : Int))) 76 (fun b_ => [(2, .ptr 0 0), (3, .ptr 1 0), (21, vb b_)]) [(1, .box 26 (avs (Cluster.cells b))), (0, .box 26 (avs (Cluster.cells a)))] 2 (fun hg4 => ?_) (fun hg4 => ?_)
   ·
    have hg4' := bne_t hg4
    refine AOps.he [.run 16] 76 [(2, .ptr 0 0), (3, .ptr 1 0), (37, vb true)] [(1, .box 26 (avs (Cluster.cells b))), (0, .box 26 (avs (Cluster.cells a)))] 2 ?_
    exact leZ (by rw [hg1, hg4]; first | done | kernel_rfl)
   ·
    have hg4' := bne_f hg4
    refine AOps.hzl [.run 2, .len Command.cells a.commands 9, .run 2, .len Command.cells b.commands 9, .run 3] 76 [(2, .ptr 0 0), (3, .ptr 1 0), (30, vb (((a.commands.length : Nat) : Int) != ((b.commands.length : Nat) : Int)))] [(1, .box 26 (avs (Cluster.cells b))), (0, .box 26 (avs (Cluster.cells a)))] 2 (fun hl => ?_)
    obtain ⟨hn5, hn6, -⟩ := hl
    refine AOps.hg [] ((((a.commands.length : Nat) : Int) != ((b.commands.length : Nat) : Int))) 76 (fun b_ => [(2, .ptr 0 0), (3, .ptr 1 0), (30, vb b_)]) [(1, .box 26 (avs (Cluster.cells b))), (0, .box 26 (avs (Cluster.cells a)))] 2 (fun hg7 => ?_) (fun hg7 => ?_)
    ·
     have hg7' := bne_t hg7
     refine AOps.he [.run 7] 76 [(2, .ptr 0 0), (3, .ptr 1 0), (37, vb true)] [(1, .box 26 (avs (Cluster.cells b))), (0, .box 26 (avs (Cluster.cells a)))] 2 ?_
     exact leZ (by rw [hg1, hg4, hg7]; first | done | kernel_rfl)
    ·
     have hg7' := bne_f hg7
     refine AOps.he [.run 4, .call 43 [.rv (.sl 1 (a.events.map strC)), .rv (.sl 1 (b.events.map strC))] (vb (sameNamesM a.events b.events)) [] 0 (sameNamesM_ok a.events b.events), .run 2] 76 [(2, .ptr 0 0), (3, .ptr 1 0), (37, vb (!(sameNamesM a.events b.events)))] [(1, .box 26 (avs (Cluster.cells b))), (0, .box 26 (avs (Cluster.cells a)))] 2 ?_
     exact leZ (by rw [hg1, hg4, hg7]; first | done | kernel_rfl)
 ·
  refine AWp.cnd (((!beqS a.name b.name || ((((a.attrs.length : Nat) : Int) != ((b.attrs.length : Nat) : Int)) || (((a.commands.length : Nat) : Int) != ((b.commands.length : Nat) : Int)))) || !(sameNamesM a.events b.events))) (fun h8 => ?_) (fun h8 => ?_)
  ·
   refine AWp.hz [.run 1] 76 [(4, vb false)] [] 2 ?_
   refine AWp.ret ?_
   exact leafR (r := vb false) (by unfold sameClusterM; (try rw [h8]); first | done | kernel_rfl)
  ·
   have h8l := or_fl h8
   have h8ll := or_fl h8l
   have h8lr := or_fr h8l
   have h8lrl := or_fl h8lr
   have h8lrl' := bne_f h8lrl
   have h8lrr := or_fr h8lr
   have h8lrr' := bne_f h8lrr
   have h8r := or_fr h8
   refine AWp.skip ?_
   refine AWp.seq ?_
   refine AWp.hzl [.run 2, .len Attr.cells a.attrs 7, .run 1] 76 [(2, .ptr 0 0), (3, .ptr 1 0), (40, vi ((a.attrs.length : Nat) : Int)), (41, vi 0)] [(1, .box 26 (avs (Cluster.cells b))), (0, .box 26 (avs (Cluster.cells a)))] 2 (fun hl => ?_)
   obtain ⟨hn9, -⟩ := hl
   refine AWp.block ?_
   refine AWp.loop (ι := Nat) (fun k1_ => Z 76 [(2, .ptr 0 0), (3, .ptr 1 0), (40, vi ((a.attrs.length : Nat) : Int)), (41, vi ((k1_ : Nat) : Int))] [(1, .box 26 (avs (Cluster.cells b))), (0, .box 26 (avs (Cluster.cells a)))] 2) (fun k1_ => k1_ ≤ a.attrs.length ∧ sameClusterM_L1 a b = scanN (sameClusterM_B1 a b) k1_ (a.attrs.length - k1_)) (fun k1_ => a.attrs.length - k1_) 0 leZ ⟨Nat.zero_le _, rfl⟩ ?_
   intro k1_ ⟨hk1_, hs1_⟩
   refine AWp.hz [.run 1] 76 [(2, .ptr 0 0), (3, .ptr 1 0), (40, vi ((a.attrs.length : Nat) : Int)), (41, vi ((k1_ : Nat) : Int)), (42, vb (decide (((k1_ : Nat) : Int) < ((a.attrs.length : Nat) : Int))))] [(1, .box 26 (avs (Cluster.cells b))), (0, .box 26 (avs (Cluster.cells a)))] 2 ?_
   refine AWp.seq ?_
   refine AWp.cnd (decide (((k1_ : Nat) : Int) < ((a.attrs.length : Nat) : Int))) (fun h10 => ?_) (fun h10 => ?_)
   ·
    have h10' := of_decide_eq_true h10
    refine AWp.skip ?_
    refine AWp.seq ?_
    refine AWp.block ?_
    refine AWp.hz [.run 2] 76 [(2, .ptr 0 0), (3, .ptr 1 0), (5, vi ((k1_ : Nat) : Int)), (40, vi ((a.attrs.length : Nat) : Int)), (41, vi ((k1_ : Nat) : Int))] [(1, .box 26 (avs (Cluster.cells b))), (0, .box 26 (avs (Cluster.cells a)))] 2 ?_
    obtain ⟨e1_, he1_⟩ : ∃ e_, (a.attrs)[k1_]? = some e_ := ⟨_, List.getElem?_eq_getElem (by omega)⟩
    obtain ⟨e2_, he2_⟩ : ∃ e_, (b.attrs)[k1_]? = some e_ := ⟨_, List.getElem?_eq_getElem (by omega)⟩
    refine AWp.dz [.ptr 0 1, .rv (.sl 7 (a.attrs.map Attr.cells)), vi ((k1_ : Nat) : Int), .rv (.ptr (Attr.cells e1_)), .agg (avs (Attr.cells e1_)), .ptr 1 1, .rv (.sl 7 (b.attrs.map Attr.cells)), vi ((k1_ : Nat) : Int), .rv (.ptr (Attr.cells e2_)), .agg (avs (Attr.cells e2_)), vb (sameAttrM e1_ e2_), vb (!(sameAttrM e1_ e2_))] 76 [(2, .ptr 0 0), (3, .ptr 1 0), (40, vi ((a.attrs.length : Nat) : Int)), (41, vi ((k1_ : Nat) : Int)), (55, vb (!(sameAttrM e1_ e2_)))] [(1, .box 26 (avs (Cluster.cells b))), (0, .box 26 (avs (Cluster.cells a)))] 2 ?_ ?_
    ·
     refine DSteps.cons (DStep.va) ?_
     refine DSteps.cons (DStep.va) ?_
     refine DSteps.cons (DStep.va) ?_
     refine DSteps.cons (DStep.vs (by kernel_rfl) (R_indexAddrM Attr.cells a.attrs 7 k1_ rfl (by kernel_rfl) (by kernel_rfl) (by kernel_rfl) he1_)) ?_
     refine DSteps.cons (DStep.va) ?_
     refine DSteps.cons (DStep.va) ?_
     refine DSteps.cons (DStep.va) ?_
     refine DSteps.cons (DStep.va) ?_
     refine DSteps.cons (DStep.vs (by kernel_rfl) (R_indexAddrM Attr.cells b.attrs 7 k1_ rfl (by kernel_rfl) (by kernel_rfl) (by kernel_rfl) he2_)) ?_
     refine DSteps.cons (DStep.va) ?_
     refine DSteps.cons (DStep.call rfl (by kernel_rfl) (by kernel_rfl) (by kernel_rfl) (args := [.agg (avs (Attr.cells e1_)), .agg (avs (Attr.cells e2_))]) (by kernel_rfl) (by kernel_rfl) (sameAttrM_ok e1_ e2_) (by kernel_rfl) (Nat.le_of_ble_eq_true (by kernel_rfl))) ?_
     refine DSteps.cons (DStep.va) ?_
     exact DSteps.nl
    refine AWp.cnd (!(sameAttrM e1_ e2_)) (fun h11 => ?_) (fun h11 => ?_)
    ·
     refine AWp.hz [.run 1] 76 [(4, vb false)] [] 2 ?_
     refine AWp.ret ?_
     have hL1_ : sameClusterM_L1 a b = some false := scanN_some hs1_ (by omega) (by unfold sameClusterM_B1; (try simp only [he1_]); (try simp only [he2_]); (try rw [h10]); (try rw [h11]); first | done | kernel_rfl)
     exact leafR (r := vb false) (by unfold sameClusterM; (try rw [h8]); (try rw [hL1_]); first | done | kernel_rfl)
    ·
     refine AWp.skip ?_
     refine AWp.he [.cast (vi (IntKind.i64.wrap (((k1_ : Nat) : Int) + 1))) (vi ((k1_ + 1 : Nat) : Int)) (congrArg vi (wrap_nat (by omega))), .run 1] 76 [(2, .ptr 0 0), (3, .ptr 1 0), (40, vi ((a.attrs.length : Nat) : Int)), (41, vi ((k1_ + 1 : Nat) : Int))] [(1, .box 26 (avs (Cluster.cells b))), (0, .box 26 (avs (Cluster.cells a)))] 2 ?_
     exact ⟨k1_ + 1, ⟨by omega, scanN_none hs1_ (by omega) (by unfold sameClusterM_B1; (try simp only [he1_]); (try simp only [he2_]); (try rw [h10]); (try rw [h11]); first | done | kernel_rfl)⟩, by omega, leG⟩
   ·
    have h10' := of_decide_eq_false h10
    refine AWp.exit ?_
    have hL1_ : sameClusterM_L1 a b = none := scanN_end hs1_ (by omega)
    refine AWp.seq ?_
    refine AWp.hzl [.run 2, .len Command.cells a.commands 9, .run 1] 76 [(2, .ptr 0 0), (3, .ptr 1 0), (59, vi ((a.commands.length : Nat) : Int)), (60, vi 0)] [(1, .box 26 (avs (Cluster.cells b))), (0, .box 26 (avs (Cluster.cells a)))] 2 (fun hl => ?_)
    obtain ⟨hn12, -⟩ := hl
    refine AWp.block ?_
    refine AWp.loop (ι := Nat) (fun k2_ => Z 76 [(2, .ptr 0 0), (3, .ptr 1 0), (59, vi ((a.commands.length : Nat) : Int)), (60, vi ((k2_ : Nat) : Int))] [(1, .box 26 (avs (Cluster.cells b))), (0, .box 26 (avs (Cluster.cells a)))] 2) (fun k2_ => k2_ ≤ a.commands.length ∧ sameClusterM_L2 a b = scanN (sameClusterM_B2 a b) k2_ (a.commands.length - k2_)) (fun k2_ => a.commands.length - k2_) 0 leZ ⟨Nat.zero_le _, rfl⟩ ?_
    intro k2_ ⟨hk2_, hs2_⟩
    refine AWp.hz [.run 1] 76 [(2, .ptr 0 0), (3, .ptr 1 0), (59, vi ((a.commands.length : Nat) : Int)), (60, vi ((k2_ : Nat) : Int)), (61, vb (decide (((k2_ : Nat) : Int) < ((a.commands.length : Nat) : Int))))] [(1, .box 26 (avs (Cluster.cells b))), (0, .box 26 (avs (Cluster.cells a)))] 2 ?_
    refine AWp.seq ?_
    refine AWp.cnd (decide (((k2_ : Nat) : Int) < ((a.commands.length : Nat) : Int))) (fun h13 => ?_) (fun h13 => ?_)
    ·
     have h13' := of_decide_eq_true h13
     refine AWp.skip ?_
     refine AWp.seq ?_
     refine AWp.block ?_
     refine AWp.hz [.run 2] 76 [(2, .ptr 0 0), (3, .ptr 1 0), (6, vi ((k2_ : Nat) : Int)), (59, vi ((a.commands.length : Nat) : Int)), (60, vi ((k2_ : Nat) : Int))] [(1, .box 26 (avs (Cluster.cells b))), (0, .box 26 (avs (Cluster.cells a)))] 2 ?_
     obtain ⟨e3_, he3_⟩ : ∃ e_, (a.commands)[k2_]? = some e_ := ⟨_, List.getElem?_eq_getElem (by omega)⟩
     obtain ⟨e4_, he4_⟩ : ∃ e_, (b.commands)[k2_]? = some e_ := ⟨_, List.getElem?_eq_getElem (by omega)⟩
     refine AWp.dz [.ptr 0 2, .rv (.sl 9 (a.commands.map Command.cells)), vi ((k2_ : Nat) : Int), .rv (.ptr (Command.cells e3_)), .agg (avs (Command.cells e3_)), .ptr 1 2, .rv (.sl 9 (b.commands.map Command.cells)), vi ((k2_ : Nat) : Int), .rv (.ptr (Command.cells e4_)), .agg (avs (Command.cells e4_)), vb (sameCommandM e3_ e4_), vb (!(sameCommandM e3_ e4_))] 76 [(2, .ptr 0 0), (3, .ptr 1 0), (59, vi ((a.commands.length : Nat) : Int)), (60, vi ((k2_ : Nat) : Int)), (74, vb (!(sameCommandM e3_ e4_)))] [(1, .box 26 (avs (Cluster.cells b))), (0, .box 26 (avs (Cluster.cells a)))] 2 ?_ ?_
     ·
      refine DSteps.cons (DStep.va) ?_
      refine DSteps.cons (DStep.va) ?_
      refine DSteps.cons (DStep.va) ?_
      refine DSteps.cons (DStep.vs (by kernel_rfl) (R_indexAddrM Command.cells a.commands 9 k2_ rfl (by kernel_rfl) (by kernel_rfl) (by kernel_rfl) he3_)) ?_
      refine DSteps.cons (DStep.va) ?_
      refine DSteps.cons (DStep.va) ?_
      refine DSteps.cons (DStep.va) ?_
      refine DSteps.cons (DStep.va) ?_
      refine DSteps.cons (DStep.vs (by kernel_rfl) (R_indexAddrM Command.cells b.commands 9 k2_ rfl (by kernel_rfl) (by kernel_rfl) (by kernel_rfl) he4_)) ?_
      refine DSteps.cons (DStep.va) ?_
      refine DSteps.cons (DStep.call rfl (by kernel_rfl) (by kernel_rfl) (by kernel_rfl) (args := [.agg (avs (Command.cells e3_)), .agg (avs (Command.cells e4_))]) (by kernel_rfl) (by kernel_rfl) (sameCommandM_ok e3_ e4_) (by kernel_rfl) (Nat.le_of_ble_eq_true (by kernel_rfl))) ?_
      refine DSteps.cons (DStep.va) ?_
      exact DSteps.nl
     refine AWp.cnd (!(sameCommandM e3_ e4_)) (fun h14 => ?_) (fun h14 => ?_)
     ·
      refine AWp.hz [.run 1] 76 [(4, vb false)] [] 2 ?_
      refine AWp.ret ?_
      have hL2_ : sameClusterM_L2 a b = some false := scanN_some hs2_ (by omega) (by unfold sameClusterM_B2; (try simp only [he3_]); (try simp only [he4_]); (try rw [h13]); (try rw [h14]); first | done | kernel_rfl)
      exact leafR (r := vb false) (by unfold sameClusterM; (try rw [h8]); (try rw [hL1_]); (try rw [hL2_]); first | done | kernel_rfl)
     ·
      refine AWp.skip ?_
      refine AWp.he [.cast (vi (IntKind.i64.wrap (((k2_ : Nat) : Int) + 1))) (vi ((k2_ + 1 : Nat) : Int)) (congrArg vi (wrap_nat (by omega))), .run 1] 76 [(2, .ptr 0 0), (3, .ptr 1 0), (59, vi ((a.commands.length : Nat) : Int)), (60, vi ((k2_ + 1 : Nat) : Int))] [(1, .box 26 (avs (Cluster.cells b))), (0, .box 26 (avs (Cluster.cells a)))] 2 ?_
      exact ⟨k2_ + 1, ⟨by omega, scanN_none hs2_ (by omega) (by unfold sameClusterM_B2; (try simp only [he3_]); (try simp only [he4_]); (try rw [h13]); (try rw [h14]); first | done | kernel_rfl)⟩, by omega, leG⟩
    ·
     have h13' := of_decide_eq_false h13
     refine AWp.exit ?_
     have hL2_ : sameClusterM_L2 a b = none := scanN_end hs2_ (by omega)
     refine AWp.hz [.run 1] 76 [(4, vb true)] [] 2 ?_
     refine AWp.ret ?_
     exact leafR (r := vb true) (by unfold sameClusterM; (try rw [h8]); (try rw [hL1_]); (try rw [hL2_]); first | done | kernel_rfl)
def smallM_B1 (c : Cluster) (k1_ : Nat) : Option Bool :=
  (match (c.attrs)[k1_]? with | some e1_ => (bif decide (((e1_.enum.length : Nat) : Int) > 70) then some false else none) | none => none)
def smallM_L1 (c : Cluster) : Option Bool := scanN (smallM_B1 c) 0 c.attrs.length
def smallM_B2 (c : Cluster) (k2_ : Nat) : Option Bool :=
  (match (c.commands)[k2_]? with | some e2_ => (bif (decide (((e2_.effects.length : Nat) : Int) > 20) || decide (((e2_.param.enum.length : Nat) : Int) > 70)) then some false else none) | none => none)
def smallM_L2 (c : Cluster) : Option Bool := scanN (smallM_B2 c) 0 c.commands.length
def smallM (c : Cluster) : Bool :=
  (bif ((decide (((c.attrs.length : Nat) : Int) > 20) || decide (((c.commands.length : Nat) : Int) > 20)) || decide (((c.events.length : Nat) : Int) > 20)) then false else (smallM_L1 c).getD ((smallM_L2 c).getD true))
theorem smallM_ok (c : Cluster) :
 ACalls Tryd.prog G_ 11 [.agg (avs (Cluster.cells c))] [] 0 (fun r τ => r = vb (smallM c) ∧ τ = []) := by
 refine ACalls.body Tryd.func11 rfl 54 [(0, .agg (avs (Cluster.cells c)))] ?_
 refine AWp.hz [.run 2] 54 [(1, .ptr 0 0)] [(0, .box 26 (avs (Cluster.cells c)))] 1 ?_
 refine AWp.seq ?_
 refine AWp.join (Z 54 [(1, .ptr 0 0), (22, vb ((decide (((c.attrs.length : Nat) : Int) > 20) || decide (((c.commands.length : Nat) : Int) > 20)) || decide (((c.events.length : Nat) : Int) > 20)))] [(0, .box 26 (avs (Cluster.cells c)))] 1) ?_ ?_
 ·
  refine AWp.region ?_
  refine AOps.hzl [.run 2, .len Attr.cells c.attrs 7, .run 2] 54 [(1, .ptr 0 0), (11, vb (decide (((c.attrs.length : Nat) : Int) > 20)))] [(0, .box 26 (avs (Cluster.cells c)))] 1 (fun hl => ?_)
  obtain ⟨hn1, -⟩ := hl
  refine AOps.hg [] (decide (((c.attrs.length : Nat) : Int) > 20)) 54 (fun b_ => [(1, .ptr 0 0), (11, vb b_)]) [(0, .box 26 (avs (Cluster.cells c)))] 1 (fun hg2 => ?_) (fun hg2 => ?_)
  ·
   have hg2' := of_decide_eq_true hg2
   refine AOps.he [.run 11] 54 [(1, .ptr 0 0), (22, vb true)] [(0, .box 26 (avs (Cluster.cells c)))] 1 ?_
   exact leZ (by rw [hg2]; first | done | kernel_rfl)
  ·
   have hg2' := of_decide_eq_false hg2
   refine AOps.hzl [.run 2, .len Command.cells c.commands 9, .run 3] 54 [(1, .ptr 0 0), (17, vb (decide (((c.commands.length : Nat) : Int) > 20)))] [(0, .box 26 (avs (Cluster.cells c)))] 1 (fun hl => ?_)
   obtain ⟨hn3, -⟩ := hl
   refine AOps.hg [] (decide (((c.commands.length : Nat) : Int) > 20)) 54 (fun b_ => [(1, .ptr 0 0), (17, vb b_)]) [(0, .box 26 (avs (Cluster.cells c)))] 1 (fun hg4 => ?_) (fun hg4 => ?_)
   ·
    have hg4' := of_decide_eq_true hg4
    refine AOps.he [.run 5] 54 [(1, .ptr 0 0), (22, vb true)] [(0, .box 26 (avs (Cluster.cells c)))] 1 ?_
    exact leZ (by rw [hg2, hg4]; first | done | kernel_rfl)
   ·
    have hg4' := of_decide_eq_false hg4
    refine AOps.hel [.run 2, .len strC c.events 1, .run 2] 54 [(1, .ptr 0 0), (22, vb (decide (((c.events.length : Nat) : Int) > 20)))] [(0, .box 26 (avs (Cluster.cells c)))] 1 (fun hl => ?_)
    obtain ⟨hn5, -⟩ := hl
    exact leZ (by rw [hg2, hg4]; first | done | kernel_rfl)
 ·
  refine AWp.cnd (((decide (((c.attrs.length : Nat) : Int) > 20) || decide (((c.commands.length : Nat) : Int) > 20)) || decide (((c.events.length : Nat) : Int) > 20))) (fun h6 => ?_) (fun h6 => ?_)
  ·
   refine AWp.hz [.run 1] 54 [(2, vb false)] [] 1 ?_
   refine AWp.ret ?_
   exact leafR (r := vb false) (by unfold smallM; (try rw [h6]); first | done | kernel_rfl)
  ·
   have h6l := or_fl h6
   have h6ll := or_fl h6l
   have h6ll' := of_decide_eq_false h6ll
   have h6lr := or_fr h6l
   have h6lr' := of_decide_eq_false h6lr
   have h6r := or_fr h6
   have h6r' := of_decide_eq_false h6r
   refine AWp.skip ?_
   refine AWp.seq ?_
   refine AWp.hzl [.run 2, .len Attr.cells c.attrs 7, .run 1] 54 [(1, .ptr 0 0), (24, .rv (.sl 7 (c.attrs.map Attr.cells))), (25, vi ((c.attrs.length : Nat) : Int)), (26, vi 0)] [(0, .box 26 (avs (Cluster.cells c)))] 1 (fun hl => ?_)
   obtain ⟨hn7, -⟩ := hl
   refine AWp.block ?_
   refine AWp.loop (ι := Nat) (fun k1_ => Z 54 [(1, .ptr 0 0), (24, .rv (.sl 7 (c.attrs.map Attr.cells))), (25, vi ((c.attrs.length : Nat) : Int)), (26, vi ((k1_ : Nat) : Int))] [(0, .box 26 (avs (Cluster.cells c)))] 1) (fun k1_ => k1_ ≤ c.attrs.length ∧ smallM_L1 c = scanN (smallM_B1 c) k1_ (c.attrs.length - k1_)) (fun k1_ => c.attrs.length - k1_) 0 leZ ⟨Nat.zero_le _, rfl⟩ ?_
   intro k1_ ⟨hk1_, hs1_⟩
   refine AWp.hz [.run 1] 54 [(1, .ptr 0 0), (24, .rv (.sl 7 (c.attrs.map Attr.cells))), (25, vi ((c.attrs.length : Nat) : Int)), (26, vi ((k1_ : Nat) : Int)), (27, vb (decide (((k1_ : Nat) : Int) < ((c.attrs.length : Nat) : Int))))] [(0, .box 26 (avs (Cluster.cells c)))] 1 ?_
   refine AWp.seq ?_
   refine AWp.cnd (decide (((k1_ : Nat) : Int) < ((c.attrs.length : Nat) : Int))) (fun h8 => ?_) (fun h8 => ?_)
   ·
    have h8' := of_decide_eq_true h8
    refine AWp.skip ?_
    refine AWp.seq ?_
    refine AWp.block ?_
    obtain ⟨e1_, he1_⟩ : ∃ e_, (c.attrs)[k1_]? = some e_ := ⟨_, List.getElem?_eq_getElem (by omega)⟩
    refine AWp.hz [.idx Attr.cells c.attrs 7 k1_ e1_ he1_, .run 3] 54 [(1, .ptr 0 0), (4, .ptr 1 0), (24, .rv (.sl 7 (c.attrs.map Attr.cells))), (25, vi ((c.attrs.length : Nat) : Int)), (26, vi ((k1_ : Nat) : Int))] [(1, .box 32 (avs (Attr.cells e1_))), (0, .box 26 (avs (Cluster.cells c)))] 2 ?_
    refine AWp.hzl [.run 2, .len strC e1_.enum 1, .run 1] 54 [(1, .ptr 0 0), (24, .rv (.sl 7 (c.attrs.map Attr.cells))), (25, vi ((c.attrs.length : Nat) : Int)), (26, vi ((k1_ : Nat) : Int)), (33, vb (decide (((e1_.enum.length : Nat) : Int) > 70)))] [(0, .box 26 (avs (Cluster.cells c)))] 2 (fun hl => ?_)
    obtain ⟨hn9, -⟩ := hl
    refine AWp.cnd (decide (((e1_.enum.length : Nat) : Int) > 70)) (fun h10 => ?_) (fun h10 => ?_)
    ·
     have h10' := of_decide_eq_true h10
     refine AWp.hz [.run 1] 54 [(2, vb false)] [] 2 ?_
     refine AWp.ret ?_
     have hL1_ : smallM_L1 c = some false := scanN_some hs1_ (by omega) (by unfold smallM_B1; (try simp only [he1_]); (try rw [h8]); (try rw [h10]); first | done | kernel_rfl)
     exact leafR (r := vb false) (by unfold smallM; (try rw [h6]); (try rw [hL1_]); first | done | kernel_rfl)
    ·
     have h10' := of_decide_eq_false h10
     refine AWp.skip ?_
     refine AWp.he [.cast (vi (IntKind.i64.wrap (((k1_ : Nat) : Int) + 1))) (vi ((k1_ + 1 : Nat) : Int)) (congrArg vi (wrap_nat (by omega))), .run 1] 54 [(1, .ptr 0 0), (24, .rv (.sl 7 (c.attrs.map Attr.cells))), (25, vi ((c.attrs.length : Nat) : Int)), (26, vi ((k1_ + 1 : Nat) : Int))] [(0, .box 26 (avs (Cluster.cells c)))] 2 ?_
     exact ⟨k1_ + 1, ⟨by omega, scanN_none hs1_ (by omega) (by unfold smallM_B1; (try simp only [he1_]); (try rw [h8]); (try rw [h10]); first | done | kernel_rfl)⟩, by omega, leG⟩
   ·
    have h8' := of_decide_eq_false h8
    refine AWp.exit ?_
    have hL1_ : smallM_L1 c = none := scanN_end hs1_ (by omega)
    refine AWp.seq ?_
    refine AWp.hzl [.run 2, .len Command.cells c.commands 9, .run 1] 54 [(36, .rv (.sl 9 (c.commands.map Command.cells))), (37, vi ((c.commands.length : Nat) : Int)), (38, vi 0)] [] 1 (fun hl => ?_)
    obtain ⟨hn11, -⟩ := hl
    refine AWp.block ?_
    refine AWp.loop (ι := Nat) (fun k2_ => Z 54 [(36, .rv (.sl 9 (c.commands.map Command.cells))), (37, vi ((c.commands.length : Nat) : Int)), (38, vi ((k2_ : Nat) : Int))] [] 1) (fun k2_ => k2_ ≤ c.commands.length ∧ smallM_L2 c = scanN (smallM_B2 c) k2_ (c.commands.length - k2_)) (fun k2_ => c.commands.length - k2_) 0 leZ ⟨Nat.zero_le _, rfl⟩ ?_
    intro k2_ ⟨hk2_, hs2_⟩
    refine AWp.hz [.run 1] 54 [(36, .rv (.sl 9 (c.commands.map Command.cells))), (37, vi ((c.commands.length : Nat) : Int)), (38, vi ((k2_ : Nat) : Int)), (39, vb (decide (((k2_ : Nat) : Int) < ((c.commands.length : Nat) : Int))))] [] 1 ?_
    refine AWp.seq ?_
    refine AWp.cnd (decide (((k2_ : Nat) : Int) < ((c.commands.length : Nat) : Int))) (fun h12 => ?_) (fun h12 => ?_)
    ·
     have h12' := of_decide_eq_true h12
     refine AWp.skip ?_
     refine AWp.seq ?_
     refine AWp.block ?_
     obtain ⟨e2_, he2_⟩ : ∃ e_, (c.commands)[k2_]? = some e_ := ⟨_, List.getElem?_eq_getElem (by omega)⟩
     refine AWp.hz [.idx Command.cells c.commands 9 k2_ e2_ he2_, .run 3] 54 [(6, .ptr 1 0), (36, .rv (.sl 9 (c.commands.map Command.cells))), (37, vi ((c.commands.length : Nat) : Int)), (38, vi ((k2_ : Nat) : Int))] [(1, .box 38 (avs (Command.cells e2_)))] 2 ?_
     refine AWp.join (Z 54 [(36, .rv (.sl 9 (c.commands.map Command.cells))), (37, vi ((c.commands.length : Nat) : Int)), (38, vi ((k2_ : Nat) : Int)), (52, vb (decide (((e2_.effects.length : Nat) : Int) > 20) || decide (((e2_.param.enum.length : Nat) : Int) > 70)))] [] 2) ?_ ?_
     ·
      refine AWp.region ?_
      refine AOps.hzl [.run 2, .len Effect.cells e2_.effects 3, .run 2] 54 [(6, .ptr 1 0), (36, .rv (.sl 9 (c.commands.map Command.cells))), (37, vi ((c.commands.length : Nat) : Int)), (38, vi ((k2_ : Nat) : Int)), (46, vb (decide (((e2_.effects.length : Nat) : Int) > 20)))] [(1, .box 38 (avs (Command.cells e2_)))] 2 (fun hl => ?_)
      obtain ⟨hn13, -⟩ := hl
      refine AOps.hg [] (decide (((e2_.effects.length : Nat) : Int) > 20)) 54 (fun b_ => [(6, .ptr 1 0), (36, .rv (.sl 9 (c.commands.map Command.cells))), (37, vi ((c.commands.length : Nat) : Int)), (38, vi ((k2_ : Nat) : Int)), (46, vb b_)]) [(1, .box 38 (avs (Command.cells e2_)))] 2 (fun hg14 => ?_) (fun hg14 => ?_)
      ·
       have hg14' := of_decide_eq_true hg14
       refine AOps.he [.run 6] 54 [(36, .rv (.sl 9 (c.commands.map Command.cells))), (37, vi ((c.commands.length : Nat) : Int)), (38, vi ((k2_ : Nat) : Int)), (52, vb true)] [] 2 ?_
       exact leZ (by rw [hg14]; first | done | kernel_rfl)
      ·
       have hg14' := of_decide_eq_false hg14
       refine AOps.hel [.run 3, .len strC e2_.param.enum 1, .run 2] 54 [(36, .rv (.sl 9 (c.commands.map Command.cells))), (37, vi ((c.commands.length : Nat) : Int)), (38, vi ((k2_ : Nat) : Int)), (52, vb (decide (((e2_.param.enum.length : Nat) : Int) > 70)))] [] 2 (fun hl => ?_)
       obtain ⟨hn15, -⟩ := hl
       exact leZ (by rw [hg14]; first | done | kernel_rfl)
     ·
      refine AWp.cnd ((decide (((e2_.effects.length : Nat) : Int) > 20) || decide (((e2_.param.enum.length : Nat) : Int) > 70))) (fun h16 => ?_) (fun h16 => ?_)
      ·
       refine AWp.hz [.run 1] 54 [(2, vb false)] [] 2 ?_
       refine AWp.ret ?_
       have hL2_ : smallM_L2 c = some false := scanN_some hs2_ (by omega) (by unfold smallM_B2; (try simp only [he2_]); (try rw [h12]); (try rw [h16]); first | done | kernel_rfl)
       exact leafR (r := vb false) (by unfold smallM; (try rw [h6]); (try rw [hL1_]); (try rw [hL2_]); first | done | kernel_rfl)
      ·
       have h16l := or_fl h16
       have h16l' := of_decide_eq_false h16l
       have h16r := or_fr h16
       have h16r' := of_decide_eq_false h16r
       refine AWp.skip ?_
       refine AWp.he [.cast (vi (IntKind.i64.wrap (((k2_ : Nat) : Int) + 1))) (vi ((k2_ + 1 : Nat) : Int)) (congrArg vi (wrap_nat (by omega))), .run 1] 54 [(36, .rv (.sl 9 (c.commands.map Command.cells))), (37, vi ((c.commands.length : Nat) : Int)), (38, vi ((k2_ + 1 : Nat) : Int))] [] 2 ?_
       exact ⟨k2_ + 1, ⟨by omega, scanN_none hs2_ (by omega) (by unfold smallM_B2; (try simp only [he2_]); (try rw [h12]); (try rw [h16]); first | done | kernel_rfl)⟩, by omega, leG⟩
    ·
     have h12' := of_decide_eq_false h12
     refine AWp.exit ?_
     have hL2_ : smallM_L2 c = none := scanN_end hs2_ (by omega)
     refine AWp.hz [.run 1] 54 [(2, vb true)] [] 1 ?_
     refine AWp.ret ?_
     exact leafR (r := vb true) (by unfold smallM; (try rw [h6]); (try rw [hL1_]); (try rw [hL2_]); first | done | kernel_rfl)
def allM_B2 (l : List Cluster) (k1_ : Nat) (e1_ : Cluster) (k2_ : Nat) : Option Int :=
  (match ((l.take k1_))[k2_]? with | some e2_ => (bif beqS e2_.name e1_.name then some 9 else none) | none => none)
def allM_L2 (l : List Cluster) (k1_ : Nat) (e1_ : Cluster) : Option Int := scanN (allM_B2 l k1_ e1_) 0 ((l.take k1_).length)
def allM_B1 (l : List Cluster) (k1_ : Nat) : Option Int :=
  (match (l)[k1_]? with | some e1_ => (bif (checkM e1_ != 0) then some (checkM e1_) else allM_L2 l k1_ e1_) | none => none)
def allM_L1 (l : List Cluster) : Option Int := scanN (allM_B1 l) 0 l.length
def allM (l : List Cluster) : Int :=
  (bif decide (((l.length : Nat) : Int) > 256) then 3 else (allM_L1 l).getD 0)
theorem allM_ok (l : List Cluster) (hw : ∀ c ∈ l, Fit c) :
 ACalls Tryd.prog G_ 25 [.rv (.sl 4 (l.map Cluster.cells))] [] 0 (fun r τ => r = vi (allM l) ∧ τ = []) := by
 refine ACalls.body Tryd.func25 rfl 38 [(0, .rv (.sl 4 (l.map Cluster.cells)))] ?_
 refine AWp.hz [.run 1] 38 [(0, .rv (.sl 4 (l.map Cluster.cells)))] [] 0 ?_
 refine AWp.seq ?_
 refine AWp.hzl [.run 1, .len Cluster.cells l 4, .run 1] 38 [(0, .rv (.sl 4 (l.map Cluster.cells))), (10, vb (decide (((l.length : Nat) : Int) > 256)))] [] 0 (fun hl => ?_)
 obtain ⟨hn1, -⟩ := hl
 refine AWp.cnd (decide (((l.length : Nat) : Int) > 256)) (fun h2 => ?_) (fun h2 => ?_)
 ·
  have h2' := of_decide_eq_true h2
  refine AWp.hz [.run 1] 38 [(2, vi 3)] [] 0 ?_
  refine AWp.ret ?_
  exact leafR (r := vi 3) (by unfold allM; (try rw [h2]); first | done | kernel_rfl)
 ·
  have h2' := of_decide_eq_false h2
  refine AWp.skip ?_
  refine AWp.seq ?_
  refine AWp.hzl [.run 1, .len Cluster.cells l 4, .run 1] 38 [(0, .rv (.sl 4 (l.map Cluster.cells))), (11, .rv (.sl 4 (l.map Cluster.cells))), (12, vi ((l.length : Nat) : Int)), (13, vi 0)] [] 0 (fun hl => ?_)
  obtain ⟨hn3, -⟩ := hl
  refine AWp.block ?_
  refine AWp.loop (ι := Nat) (fun k1_ => Z 38 [(0, .rv (.sl 4 (l.map Cluster.cells))), (11, .rv (.sl 4 (l.map Cluster.cells))), (12, vi ((l.length : Nat) : Int)), (13, vi ((k1_ : Nat) : Int))] [] 0) (fun k1_ => k1_ ≤ l.length ∧ allM_L1 l = scanN (allM_B1 l) k1_ (l.length - k1_)) (fun k1_ => l.length - k1_) 0 leZ ⟨Nat.zero_le _, rfl⟩ ?_
  intro k1_ ⟨hk1_, hs1_⟩
  refine AWp.hz [.run 1] 38 [(0, .rv (.sl 4 (l.map Cluster.cells))), (11, .rv (.sl 4 (l.map Cluster.cells))), (12, vi ((l.length : Nat) : Int)), (13, vi ((k1_ : Nat) : Int)), (14, vb (decide (((k1_ : Nat) : Int) < ((l.length : Nat) : Int))))] [] 0 ?_
  refine AWp.seq ?_
  refine AWp.cnd (decide (((k1_ : Nat) : Int) < ((l.length : Nat) : Int))) (fun h4 => ?_) (fun h4 => ?_)
  ·
   have h4' := of_decide_eq_true h4
   refine AWp.skip ?_
   refine AWp.seq ?_
   refine AWp.block ?_
   obtain ⟨e1_, he1_⟩ : ∃ e_, (l)[k1_]? = some e_ := ⟨_, List.getElem?_eq_getElem (by omega)⟩
   refine AWp.hz [.run 1, .idx Cluster.cells l 4 k1_ e1_ he1_, .run 4] 38 [(0, .rv (.sl 4 (l.map Cluster.cells))), (3, vi ((k1_ : Nat) : Int)), (4, .ptr 0 0), (11, .rv (.sl 4 (l.map Cluster.cells))), (12, vi ((l.length : Nat) : Int)), (13, vi ((k1_ : Nat) : Int))] [(0, .box 26 (avs (Cluster.cells e1_)))] 1 ?_
   refine AWp.seq ?_
   refine AWp.hz [.run 1, .call 13 [.agg (avs (Cluster.cells e1_))] (vi (checkM e1_)) [] 0 (checkM_ok e1_ (by first | assumption | exact std_fit _ (List.mem_of_getElem? (by assumption)) | exact fit_s1 (by assumption) | exact std_fit | exact fun c hc => std_fit c (List.mem_of_mem_take (List.mem_of_mem_drop hc)) | exact Nat.le_trans (apply_len _ _ _ _) (by omega) | exact parts_fit (by assumption) | exact parts_fit (by assumption) _ (List.mem_of_getElem? (by assumption)) | (simp; done) | exact ⟨by simp, by simp⟩ | exact hw _ (List.mem_of_getElem? (by assumption)) | exact hw.1 _ (List.mem_of_getElem? (by assumption)) | exact (hw.2 _ (List.mem_of_getElem? (by assumption))).1 | exact (hw.2 _ (List.mem_of_getElem? (by assumption))).2 | omega | exact fit_take hw _)), .run 1] 38 [(0, .rv (.sl 4 (l.map Cluster.cells))), (3, vi ((k1_ : Nat) : Int)), (4, .ptr 0 0), (5, vi (checkM e1_)), (11, .rv (.sl 4 (l.map Cluster.cells))), (12, vi ((l.length : Nat) : Int)), (13, vi ((k1_ : Nat) : Int))] [(0, .box 26 (avs (Cluster.cells e1_)))] 1 ?_
   refine AWp.hz [.run 2] 38 [(0, .rv (.sl 4 (l.map Cluster.cells))), (3, vi ((k1_ : Nat) : Int)), (4, .ptr 0 0), (5, vi (checkM e1_)), (11, .rv (.sl 4 (l.map Cluster.cells))), (12, vi ((l.length : Nat) : Int)), (13, vi ((k1_ : Nat) : Int)), (21, vb (checkM e1_ != 0))] [(0, .box 26 (avs (Cluster.cells e1_)))] 1 ?_
   refine AWp.cnd ((checkM e1_ != 0)) (fun h5 => ?_) (fun h5 => ?_)
   ·
    refine AWp.hz [.run 2] 38 [(2, vi (checkM e1_))] [] 1 ?_
    refine AWp.ret ?_
    have hL1_ : allM_L1 l = some (checkM e1_) := scanN_some hs1_ (by omega) (by unfold allM_B1; (try simp only [he1_]); (try rw [h4]); (try rw [h5]); first | done | kernel_rfl)
    exact leafR (r := vi (checkM e1_)) (by unfold allM; (try rw [h2]); (try rw [hL1_]); first | done | kernel_rfl)
   ·
    refine AWp.skip ?_
    refine AWp.hzl [.run 2, .take Cluster.cells l 4 k1_ (by omega), .len Cluster.cells (l.take k1_) 4, .run 1] 38 [(0, .rv (.sl 4 (l.map Cluster.cells))), (4, .ptr 0 0), (11, .rv (.sl 4 (l.map Cluster.cells))), (12, vi ((l.length : Nat) : Int)), (13, vi ((k1_ : Nat) : Int)), (25, .rv (.sl 4 ((l.take k1_).map Cluster.cells))), (26, vi (((l.take k1_).length : Nat) : Int)), (27, vi 0)] [(0, .box 26 (avs (Cluster.cells e1_)))] 1 (fun hl => ?_)
    obtain ⟨hn6, -⟩ := hl
    refine AWp.block ?_
    refine AWp.loop (ι := Nat) (fun k2_ => Z 38 [(0, .rv (.sl 4 (l.map Cluster.cells))), (4, .ptr 0 0), (11, .rv (.sl 4 (l.map Cluster.cells))), (12, vi ((l.length : Nat) : Int)), (13, vi ((k1_ : Nat) : Int)), (25, .rv (.sl 4 ((l.take k1_).map Cluster.cells))), (26, vi (((l.take k1_).length : Nat) : Int)), (27, vi ((k2_ : Nat) : Int))] [(0, .box 26 (avs (Cluster.cells e1_)))] 1) (fun k2_ => k2_ ≤ ((l.take k1_).length) ∧ allM_L2 l k1_ e1_ = scanN (allM_B2 l k1_ e1_) k2_ (((l.take k1_).length) - k2_)) (fun k2_ => ((l.take k1_).length) - k2_) 0 leZ ⟨Nat.zero_le _, rfl⟩ ?_
    intro k2_ ⟨hk2_, hs2_⟩
    refine AWp.hz [.run 1] 38 [(0, .rv (.sl 4 (l.map Cluster.cells))), (4, .ptr 0 0), (11, .rv (.sl 4 (l.map Cluster.cells))), (12, vi ((l.length : Nat) : Int)), (13, vi ((k1_ : Nat) : Int)), (25, .rv (.sl 4 ((l.take k1_).map Cluster.cells))), (26, vi (((l.take k1_).length : Nat) : Int)), (27, vi ((k2_ : Nat) : Int)), (28, vb (decide (((k2_ : Nat) : Int) < (((l.take k1_).length : Nat) : Int))))] [(0, .box 26 (avs (Cluster.cells e1_)))] 1 ?_
    refine AWp.seq ?_
    refine AWp.cnd (decide (((k2_ : Nat) : Int) < (((l.take k1_).length : Nat) : Int))) (fun h7 => ?_) (fun h7 => ?_)
    ·
     have h7' := of_decide_eq_true h7
     refine AWp.skip ?_
     refine AWp.seq ?_
     refine AWp.block ?_
     obtain ⟨e2_, he2_⟩ : ∃ e_, ((l.take k1_))[k2_]? = some e_ := ⟨_, List.getElem?_eq_getElem (by first | omega | (simp only [List.length_take]; omega))⟩
     refine AWp.hz [.idx Cluster.cells (l.take k1_) 4 k2_ e2_ he2_, .run 3] 38 [(0, .rv (.sl 4 (l.map Cluster.cells))), (4, .ptr 0 0), (7, .ptr 1 0), (11, .rv (.sl 4 (l.map Cluster.cells))), (12, vi ((l.length : Nat) : Int)), (13, vi ((k1_ : Nat) : Int)), (25, .rv (.sl 4 ((l.take k1_).map Cluster.cells))), (26, vi (((l.take k1_).length : Nat) : Int)), (27, vi ((k2_ : Nat) : Int))] [(1, .box 26 (avs (Cluster.cells e2_))), (0, .box 26 (avs (Cluster.cells e1_)))] 2 ?_
     refine AWp.hz [.run 5] 38 [(0, .rv (.sl 4 (l.map Cluster.cells))), (4, .ptr 0 0), (11, .rv (.sl 4 (l.map Cluster.cells))), (12, vi ((l.length : Nat) : Int)), (13, vi ((k1_ : Nat) : Int)), (25, .rv (.sl 4 ((l.take k1_).map Cluster.cells))), (26, vi (((l.take k1_).length : Nat) : Int)), (27, vi ((k2_ : Nat) : Int)), (35, vb (beqS e2_.name e1_.name))] [(0, .box 26 (avs (Cluster.cells e1_)))] 2 ?_
     refine AWp.cnd (beqS e2_.name e1_.name) (fun h8 => ?_) (fun h8 => ?_)
     ·
      refine AWp.hz [.run 1] 38 [(2, vi 9)] [] 2 ?_
      refine AWp.ret ?_
      have hL2_ : allM_L2 l k1_ e1_ = some 9 := scanN_some hs2_ (by omega) (by unfold allM_B2; (try simp only [he1_]); (try simp only [he2_]); (try rw [h7]); (try rw [h8]); first | done | kernel_rfl)
      have hL1_ : allM_L1 l = some 9 := scanN_some hs1_ (by omega) (by unfold allM_B1; (try simp only [he1_]); (try simp only [he2_]); (try rw [h4]); (try rw [h5]); (try rw [h7]); (try rw [h8]); (try rw [hL2_]); first | done | kernel_rfl)
      exact leafR (r := vi 9) (by unfold allM; (try rw [h2]); (try rw [hL1_]); first | done | kernel_rfl)
     ·
      refine AWp.skip ?_
      refine AWp.he [.cast (vi (IntKind.i64.wrap (((k2_ : Nat) : Int) + 1))) (vi ((k2_ + 1 : Nat) : Int)) (congrArg vi (wrap_nat (by omega))), .run 1] 38 [(0, .rv (.sl 4 (l.map Cluster.cells))), (4, .ptr 0 0), (11, .rv (.sl 4 (l.map Cluster.cells))), (12, vi ((l.length : Nat) : Int)), (13, vi ((k1_ : Nat) : Int)), (25, .rv (.sl 4 ((l.take k1_).map Cluster.cells))), (26, vi (((l.take k1_).length : Nat) : Int)), (27, vi ((k2_ + 1 : Nat) : Int))] [(0, .box 26 (avs (Cluster.cells e1_)))] 2 ?_
      exact ⟨k2_ + 1, ⟨by omega, scanN_none hs2_ (by omega) (by unfold allM_B2; (try simp only [he1_]); (try simp only [he2_]); (try rw [h7]); (try rw [h8]); first | done | kernel_rfl)⟩, by omega, leG⟩
    ·
     have h7' := of_decide_eq_false h7
     refine AWp.exit ?_
     have hL2_ : allM_L2 l k1_ e1_ = none := scanN_end hs2_ (by omega)
     refine AWp.he [.cast (vi (IntKind.i64.wrap (((k1_ : Nat) : Int) + 1))) (vi ((k1_ + 1 : Nat) : Int)) (congrArg vi (wrap_nat (by omega))), .run 1] 38 [(0, .rv (.sl 4 (l.map Cluster.cells))), (11, .rv (.sl 4 (l.map Cluster.cells))), (12, vi ((l.length : Nat) : Int)), (13, vi ((k1_ + 1 : Nat) : Int))] [] 1 ?_
     exact ⟨k1_ + 1, ⟨by omega, scanN_none hs1_ (by omega) (by unfold allM_B1; (try simp only [he1_]); (try rw [h4]); (try rw [h5]); (try rw [hL2_]); first | done | kernel_rfl)⟩, by omega, leG⟩
  ·
   have h4' := of_decide_eq_false h4
   refine AWp.exit ?_
   have hL1_ : allM_L1 l = none := scanN_end hs1_ (by omega)
   refine AWp.hz [.run 1] 38 [(2, vi 0)] [] 0 ?_
   refine AWp.ret ?_
   exact leafR (r := vi 0) (by unfold allM; (try rw [h2]); (try rw [hL1_]); first | done | kernel_rfl)
def rallM_B2 (l : List Cluster) (k1_ : Nat) (e1_ : Cluster) (k2_ : Nat) : Option Int :=
  (match (l)[k2_]? with | some e2_ => (bif beqS e2_.name e1_.name then some 9 else none) | none => none)
def rallM_L2 (l : List Cluster) (k1_ : Nat) (e1_ : Cluster) : Option Int := scanN (rallM_B2 l k1_ e1_) 0 k1_
def rallM_B1 (l : List Cluster) (k1_ : Nat) : Option Int :=
  (match (l)[k1_]? with | some e1_ => (bif (rcheckM e1_ != 0) then some (rcheckM e1_) else rallM_L2 l k1_ e1_) | none => none)
def rallM_L1 (l : List Cluster) : Option Int := scanN (rallM_B1 l) 0 l.length
def rallM (l : List Cluster) : Int :=
  (bif decide (((l.length : Nat) : Int) > 256) then 3 else (rallM_L1 l).getD 0)
theorem rallM_ok (l : List Cluster) :
 ACalls Tryd.prog G_ 26 [.rv (.sl 4 (l.map Cluster.cells))] [] 0 (fun r τ => r = vi (rallM l) ∧ τ = []) := by
 refine ACalls.body Tryd.func26 rfl 39 [(0, .rv (.sl 4 (l.map Cluster.cells)))] ?_
 refine AWp.hz [.run 1] 39 [(0, .rv (.sl 4 (l.map Cluster.cells)))] [] 0 ?_
 refine AWp.seq ?_
 refine AWp.hzl [.run 1, .len Cluster.cells l 4, .run 1] 39 [(0, .rv (.sl 4 (l.map Cluster.cells))), (8, vb (decide (((l.length : Nat) : Int) > 256)))] [] 0 (fun hl => ?_)
 obtain ⟨hn1, -⟩ := hl
 refine AWp.cnd (decide (((l.length : Nat) : Int) > 256)) (fun h2 => ?_) (fun h2 => ?_)
 ·
  have h2' := of_decide_eq_true h2
  refine AWp.hz [.run 1] 39 [(2, vi 3)] [] 0 ?_
  refine AWp.ret ?_
  exact leafR (r := vi 3) (by unfold rallM; (try rw [h2]); first | done | kernel_rfl)
 ·
  have h2' := of_decide_eq_false h2
  refine AWp.skip ?_
  refine AWp.seq ?_
  refine AWp.hzl [.run 1, .len Cluster.cells l 4, .run 1] 39 [(0, .rv (.sl 4 (l.map Cluster.cells))), (10, vi ((l.length : Nat) : Int)), (11, vi 0)] [] 0 (fun hl => ?_)
  obtain ⟨hn3, -⟩ := hl
  refine AWp.block ?_
  refine AWp.loop (ι := Nat) (fun k1_ => Z 39 [(0, .rv (.sl 4 (l.map Cluster.cells))), (10, vi ((l.length : Nat) : Int)), (11, vi ((k1_ : Nat) : Int))] [] 0) (fun k1_ => k1_ ≤ l.length ∧ rallM_L1 l = scanN (rallM_B1 l) k1_ (l.length - k1_)) (fun k1_ => l.length - k1_) 0 leZ ⟨Nat.zero_le _, rfl⟩ ?_
  intro k1_ ⟨hk1_, hs1_⟩
  refine AWp.hz [.run 1] 39 [(0, .rv (.sl 4 (l.map Cluster.cells))), (10, vi ((l.length : Nat) : Int)), (11, vi ((k1_ : Nat) : Int)), (12, vb (decide (((k1_ : Nat) : Int) < ((l.length : Nat) : Int))))] [] 0 ?_
  refine AWp.seq ?_
  refine AWp.cnd (decide (((k1_ : Nat) : Int) < ((l.length : Nat) : Int))) (fun h4 => ?_) (fun h4 => ?_)
  ·
   have h4' := of_decide_eq_true h4
   refine AWp.skip ?_
   refine AWp.seq ?_
   refine AWp.block ?_
   refine AWp.hz [.run 2] 39 [(0, .rv (.sl 4 (l.map Cluster.cells))), (3, vi ((k1_ : Nat) : Int)), (10, vi ((l.length : Nat) : Int)), (11, vi ((k1_ : Nat) : Int))] [] 0 ?_
   obtain ⟨e1_, he1_⟩ : ∃ e_, (l)[k1_]? = some e_ := ⟨_, List.getElem?_eq_getElem (by omega)⟩
   refine AWp.hz [.run 2, .idx Cluster.cells l 4 k1_ e1_ he1_, .run 1, .call 14 [.agg (avs (Cluster.cells e1_))] (vi (rcheckM e1_)) [] 0 (rcheckM_ok e1_), .run 1] 39 [(0, .rv (.sl 4 (l.map Cluster.cells))), (3, vi ((k1_ : Nat) : Int)), (4, vi (rcheckM e1_)), (10, vi ((l.length : Nat) : Int)), (11, vi ((k1_ : Nat) : Int))] [] 0 ?_
   refine AWp.seq ?_
   refine AWp.hz [.run 2] 39 [(0, .rv (.sl 4 (l.map Cluster.cells))), (3, vi ((k1_ : Nat) : Int)), (4, vi (rcheckM e1_)), (10, vi ((l.length : Nat) : Int)), (11, vi ((k1_ : Nat) : Int)), (20, vb (rcheckM e1_ != 0))] [] 0 ?_
   refine AWp.cnd ((rcheckM e1_ != 0)) (fun h5 => ?_) (fun h5 => ?_)
   ·
    refine AWp.hz [.run 2] 39 [(2, vi (rcheckM e1_))] [] 0 ?_
    refine AWp.ret ?_
    have hL1_ : rallM_L1 l = some (rcheckM e1_) := scanN_some hs1_ (by omega) (by unfold rallM_B1; (try simp only [he1_]); (try rw [h4]); (try rw [h5]); first | done | kernel_rfl)
    exact leafR (r := vi (rcheckM e1_)) (by unfold rallM; (try rw [h2]); (try rw [hL1_]); first | done | kernel_rfl)
   ·
    refine AWp.skip ?_
    refine AWp.hz [.run 1] 39 [(0, .rv (.sl 4 (l.map Cluster.cells))), (3, vi ((k1_ : Nat) : Int)), (5, vi 0), (10, vi ((l.length : Nat) : Int)), (11, vi ((k1_ : Nat) : Int))] [] 0 ?_
    refine AWp.block ?_
    refine AWp.loop (ι := Nat) (fun k2_ => Z 39 [(0, .rv (.sl 4 (l.map Cluster.cells))), (3, vi ((k1_ : Nat) : Int)), (5, vi ((k2_ : Nat) : Int)), (10, vi ((l.length : Nat) : Int)), (11, vi ((k1_ : Nat) : Int))] [] 0) (fun k2_ => k2_ ≤ k1_ ∧ rallM_L2 l k1_ e1_ = scanN (rallM_B2 l k1_ e1_) k2_ (k1_ - k2_)) (fun k2_ => k1_ - k2_) 0 leZ ⟨Nat.zero_le _, rfl⟩ ?_
    intro k2_ ⟨hk2_, hs2_⟩
    refine AWp.seq ?_
    refine AWp.hz [.run 3] 39 [(0, .rv (.sl 4 (l.map Cluster.cells))), (3, vi ((k1_ : Nat) : Int)), (5, vi ((k2_ : Nat) : Int)), (10, vi ((l.length : Nat) : Int)), (11, vi ((k1_ : Nat) : Int)), (24, vb (decide (((k2_ : Nat) : Int) < ((k1_ : Nat) : Int))))] [] 0 ?_
    refine AWp.cnd (decide (((k2_ : Nat) : Int) < ((k1_ : Nat) : Int))) (fun h6 => ?_) (fun h6 => ?_)
    ·
     have h6' := of_decide_eq_true h6
     refine AWp.skip ?_
     refine AWp.seq ?_
     refine AWp.block ?_
     obtain ⟨e2_, he2_⟩ : ∃ e_, (l)[k2_]? = some e_ := ⟨_, List.getElem?_eq_getElem (by omega)⟩
     refine AWp.dz [.rv (.sl 4 (l.map Cluster.cells)), vi ((k2_ : Nat) : Int), .rv (.ptr (Cluster.cells e2_)), .rv (.ptr (Cluster.cells e2_)), vs e2_.name, .rv (.sl 4 (l.map Cluster.cells)), vi ((k1_ : Nat) : Int), .rv (.ptr (Cluster.cells e1_)), .rv (.ptr (Cluster.cells e1_)), vs e1_.name, vb (beqS e2_.name e1_.name)] 39 [(0, .rv (.sl 4 (l.map Cluster.cells))), (3, vi ((k1_ : Nat) : Int)), (5, vi ((k2_ : Nat) : Int)), (10, vi ((l.length : Nat) : Int)), (11, vi ((k1_ : Nat) : Int)), (37, vb (beqS e2_.name e1_.name))] [] 0 ?_ ?_
     ·
      refine DSteps.cons (DStep.va) ?_
      refine DSteps.cons (DStep.va) ?_
      refine DSteps.cons (DStep.vs (by kernel_rfl) (R_indexAddrM Cluster.cells l 4 k2_ rfl (by kernel_rfl) (by kernel_rfl) (by kernel_rfl) he2_)) ?_
      refine DSteps.cons (DStep.va) ?_
      refine DSteps.cons (DStep.va) ?_
      refine DSteps.cons (DStep.va) ?_
      refine DSteps.cons (DStep.va) ?_
      refine DSteps.cons (DStep.vs (by kernel_rfl) (R_indexAddrM Cluster.cells l 4 k1_ rfl (by kernel_rfl) (by kernel_rfl) (by kernel_rfl) he1_)) ?_
      refine DSteps.cons (DStep.va) ?_
      refine DSteps.cons (DStep.va) ?_
      refine DSteps.cons (DStep.va) ?_
      exact DSteps.nl
     refine AWp.cnd (beqS e2_.name e1_.name) (fun h7 => ?_) (fun h7 => ?_)
     ·
      refine AWp.hz [.run 1] 39 [(2, vi 9)] [] 0 ?_
      refine AWp.ret ?_
      have hL2_ : rallM_L2 l k1_ e1_ = some 9 := scanN_some hs2_ (by omega) (by unfold rallM_B2; (try simp only [he1_]); (try simp only [he2_]); (try rw [h6]); (try rw [h7]); first | done | kernel_rfl)
      have hL1_ : rallM_L1 l = some 9 := scanN_some hs1_ (by omega) (by unfold rallM_B1; (try simp only [he1_]); (try simp only [he2_]); (try rw [h4]); (try rw [h5]); (try rw [h6]); (try rw [h7]); (try rw [hL2_]); first | done | kernel_rfl)
      exact leafR (r := vi 9) (by unfold rallM; (try rw [h2]); (try rw [hL1_]); first | done | kernel_rfl)
     ·
      refine AWp.skip ?_
      refine AWp.he [.run 1, .cast (vi (IntKind.i64.wrap (((k2_ : Nat) : Int) + 1))) (vi ((k2_ + 1 : Nat) : Int)) (congrArg vi (wrap_nat (by omega))), .run 1] 39 [(0, .rv (.sl 4 (l.map Cluster.cells))), (3, vi ((k1_ : Nat) : Int)), (5, vi ((k2_ + 1 : Nat) : Int)), (10, vi ((l.length : Nat) : Int)), (11, vi ((k1_ : Nat) : Int))] [] 0 ?_
      exact ⟨k2_ + 1, ⟨by omega, scanN_none hs2_ (by omega) (by unfold rallM_B2; (try simp only [he1_]); (try simp only [he2_]); (try rw [h6]); (try rw [h7]); first | done | kernel_rfl)⟩, by omega, leG⟩
    ·
     have h6' := of_decide_eq_false h6
     refine AWp.exit ?_
     have hL2_ : rallM_L2 l k1_ e1_ = none := scanN_end hs2_ (by omega)
     refine AWp.he [.cast (vi (IntKind.i64.wrap (((k1_ : Nat) : Int) + 1))) (vi ((k1_ + 1 : Nat) : Int)) (congrArg vi (wrap_nat (by omega))), .run 1] 39 [(0, .rv (.sl 4 (l.map Cluster.cells))), (10, vi ((l.length : Nat) : Int)), (11, vi ((k1_ + 1 : Nat) : Int))] [] 0 ?_
     exact ⟨k1_ + 1, ⟨by omega, scanN_none hs1_ (by omega) (by unfold rallM_B1; (try simp only [he1_]); (try rw [h4]); (try rw [h5]); (try rw [hL2_]); first | done | kernel_rfl)⟩, by omega, leG⟩
  ·
   have h4' := of_decide_eq_false h4
   refine AWp.exit ?_
   have hL1_ : rallM_L1 l = none := scanN_end hs1_ (by omega)
   refine AWp.hz [.run 1] 39 [(2, vi 0)] [] 0 ?_
   refine AWp.ret ?_
   exact leafR (r := vi 0) (by unfold rallM; (try rw [h2]); (try rw [hL1_]); first | done | kernel_rfl)
def lflagM (n : Int) : Val :=
  (⟨1, n, ⟨#[]⟩⟩ : Val)
theorem lflagM_ok (n : Int) :
 ACalls Tryd.prog G_ 30 [vi n] [] 0 (fun r τ => r = .agg (avs (Val.cells (lflagM n))) ∧ τ = []) := by
 refine ACalls.body Tryd.func30 rfl 5 [(0, vi n)] ?_
 refine AWp.hz [.run 1] 5 [(0, vi n), (2, .ptr 0 0)] [(0, .box 44 [vi 0, vi 0, vs (⟨#[]⟩)])] 1 ?_
 refine AWp.hz [.run 3] 5 [(2, .ptr 0 0)] [(0, .box 44 [vi 1, vi n, vs (⟨#[]⟩)])] 1 ?_
 refine AWp.ret ?_
 exact leafR (r := .agg [vi 1, vi n, vs (⟨#[]⟩)]) (by show (.agg [vi 1, vi n, vs (⟨#[]⟩)] : AV) = .agg (avs (Val.cells (lflagM n))); unfold lflagM; first | done | kernel_rfl)
def lnumberM (n : Int) : Val :=
  (⟨2, n, ⟨#[]⟩⟩ : Val)
theorem lnumberM_ok (n : Int) :
 ACalls Tryd.prog G_ 31 [vi n] [] 0 (fun r τ => r = .agg (avs (Val.cells (lnumberM n))) ∧ τ = []) := by
 refine ACalls.body Tryd.func31 rfl 5 [(0, vi n)] ?_
 refine AWp.hz [.run 1] 5 [(0, vi n), (2, .ptr 0 0)] [(0, .box 44 [vi 0, vi 0, vs (⟨#[]⟩)])] 1 ?_
 refine AWp.hz [.run 3] 5 [(2, .ptr 0 0)] [(0, .box 44 [vi 2, vi n, vs (⟨#[]⟩)])] 1 ?_
 refine AWp.ret ?_
 exact leafR (r := .agg [vi 2, vi n, vs (⟨#[]⟩)]) (by show (.agg [vi 2, vi n, vs (⟨#[]⟩)] : AV) = .agg (avs (Val.cells (lnumberM n))); unfold lnumberM; first | done | kernel_rfl)
def acceptsM (d : Command) (v : Val) : Int :=
  (bif (d.param.kind != 0) then fitsM d.param v else (bif !((v.kind == 0) && ((v.n == 0) && (beqS v.s (⟨#[]⟩) && true))) then 11 else 0))
theorem acceptsM_ok (d : Command) (v : Val) :
 ACalls Tryd.prog G_ 45 [.agg (avs (Command.cells d)), .agg (avs (Val.cells v))] [] 0 (fun r τ => r = vi (acceptsM d v) ∧ τ = []) := by
 refine ACalls.body Tryd.func45 rfl 16 [(0, .agg (avs (Command.cells d))), (1, .agg (avs (Val.cells v)))] ?_
 refine AWp.hz [.run 3] 16 [(2, .ptr 0 0), (3, .ptr 1 0)] [(1, .box 44 (avs (Val.cells v))), (0, .box 38 (avs (Command.cells d)))] 2 ?_
 refine AWp.seq ?_
 refine AWp.hz [.run 4] 16 [(2, .ptr 0 0), (3, .ptr 1 0), (8, vb (d.param.kind != 0))] [(1, .box 44 (avs (Val.cells v))), (0, .box 38 (avs (Command.cells d)))] 2 ?_
 refine AWp.cnd ((d.param.kind != 0)) (fun h1 => ?_) (fun h1 => ?_)
 ·
  refine AWp.hz [.run 3, .call 24 [.agg [vs d.param.name, vi d.param.kind, vi d.param.min, vi d.param.max, .rv (.sl 1 (d.param.enum.map strC)), vb d.param.writable, vb d.param.safety], .agg (avs (Val.cells v))] (vi (fitsM d.param v)) [] 0 (fitsM_ok d.param v), .run 1] 16 [(4, vi (fitsM d.param v))] [] 2 ?_
  refine AWp.ret ?_
  exact leafR (r := vi (fitsM d.param v)) (by unfold acceptsM; (try rw [h1]); first | done | kernel_rfl)
 ·
  refine AWp.skip ?_
  refine AWp.seq ?_
  refine AWp.hz [.run 3] 16 [(15, vb (!((v.kind == 0) && ((v.n == 0) && (beqS v.s (⟨#[]⟩) && true)))))] [] 2 ?_
  refine AWp.cnd (!((v.kind == 0) && ((v.n == 0) && (beqS v.s (⟨#[]⟩) && true)))) (fun h2 => ?_) (fun h2 => ?_)
  ·
   refine AWp.hz [.run 1] 16 [(4, vi 11)] [] 2 ?_
   refine AWp.ret ?_
   exact leafR (r := vi 11) (by unfold acceptsM; (try rw [h1]); (try rw [h2]); first | done | kernel_rfl)
  ·
   refine AWp.skip ?_
   refine AWp.hz [.run 1] 16 [(4, vi 0)] [] 2 ?_
   refine AWp.ret ?_
   exact leafR (r := vi 0) (by unfold acceptsM; (try rw [h1]); (try rw [h2]); first | done | kernel_rfl)
def afterM (x : Effect) (a : Attr) (q v : Val) : Val :=
  (vLimitM a (⟨(bif (x.kind == 1) then a.kind else (bif (x.kind == 2) then q.kind else v.kind)), (bif (x.kind == 1) then x.n else (bif (x.kind == 2) then q.n else (bif (x.kind == 3) then addM v.n x.n else (bif (x.kind == 4) then IntKind.i64.wrap (1 - v.n) else v.n)))), (bif (x.kind == 1) then ⟨#[]⟩ else (bif (x.kind == 2) then q.s else v.s))⟩ : Val))
theorem afterM_ok (x : Effect) (a : Attr) (q v : Val) :
 ACalls Tryd.prog G_ 47 [.agg (avs (Effect.cells x)), .agg (avs (Attr.cells a)), .agg (avs (Val.cells q)), .agg (avs (Val.cells v))] [] 0 (fun r τ => r = .agg (avs (Val.cells (afterM x a q v))) ∧ τ = []) := by
 refine ACalls.body Tryd.func47 rfl 38 [(0, .agg (avs (Effect.cells x))), (1, .agg (avs (Attr.cells a))), (2, .agg (avs (Val.cells q))), (3, .agg (avs (Val.cells v)))] ?_
 refine AWp.hz [.run 5] 38 [(4, .ptr 0 0), (5, .ptr 1 0), (6, .ptr 2 0), (7, .ptr 3 0), (8, .ptr 4 0)] [(4, .box 44 [vi 0, vi 0, vs (⟨#[]⟩)]), (3, .box 44 (avs (Val.cells v))), (2, .box 44 (avs (Val.cells q))), (1, .box 32 (avs (Attr.cells a))), (0, .box 52 (avs (Effect.cells x)))] 5 ?_
 refine AWp.join (Z 38 [(5, .ptr 1 0), (7, .ptr 3 0), (8, .ptr 4 0)] [(4, .box 44 [vi 0, vi 0, vs (⟨#[]⟩)]), (3, .box 44 [vi (bif (x.kind == 1) then a.kind else (bif (x.kind == 2) then q.kind else v.kind)), vi (bif (x.kind == 1) then x.n else (bif (x.kind == 2) then q.n else (bif (x.kind == 3) then addM v.n x.n else (bif (x.kind == 4) then IntKind.i64.wrap (1 - v.n) else v.n)))), vs (bif (x.kind == 1) then ⟨#[]⟩ else (bif (x.kind == 2) then q.s else v.s))]), (1, .box 32 (avs (Attr.cells a)))] 5) ?_ ?_
 ·
  refine AWp.hz [.run 2] 38 [(4, .ptr 0 0), (5, .ptr 1 0), (6, .ptr 2 0), (7, .ptr 3 0), (8, .ptr 4 0), (10, vi x.kind)] [(4, .box 44 [vi 0, vi 0, vs (⟨#[]⟩)]), (3, .box 44 (avs (Val.cells v))), (2, .box 44 (avs (Val.cells q))), (1, .box 32 (avs (Attr.cells a))), (0, .box 52 (avs (Effect.cells x)))] 5 ?_
  refine AWp.block ?_
  refine AWp.hz [.run 2] 38 [(4, .ptr 0 0), (5, .ptr 1 0), (6, .ptr 2 0), (7, .ptr 3 0), (8, .ptr 4 0), (10, vi x.kind), (11, vb (x.kind == 1))] [(4, .box 44 [vi 0, vi 0, vs (⟨#[]⟩)]), (3, .box 44 (avs (Val.cells v))), (2, .box 44 (avs (Val.cells q))), (1, .box 32 (avs (Attr.cells a))), (0, .box 52 (avs (Effect.cells x)))] 5 ?_
  refine AWp.cnd ((x.kind == 1)) (fun h1 => ?_) (fun h1 => ?_)
  ·
   refine AWp.he [.run 6] 38 [(5, .ptr 1 0), (7, .ptr 3 0), (8, .ptr 4 0)] [(4, .box 44 [vi 0, vi 0, vs (⟨#[]⟩)]), (3, .box 44 [vi a.kind, vi x.n, vs (⟨#[]⟩)]), (1, .box 32 (avs (Attr.cells a)))] 5 ?_
   exact leZ (by rw [h1]; first | done | kernel_rfl)
  ·
   refine AWp.hz [.run 2] 38 [(4, .ptr 0 0), (5, .ptr 1 0), (6, .ptr 2 0), (7, .ptr 3 0), (8, .ptr 4 0), (10, vi x.kind), (18, vb (x.kind == 2))] [(4, .box 44 [vi 0, vi 0, vs (⟨#[]⟩)]), (3, .box 44 (avs (Val.cells v))), (2, .box 44 (avs (Val.cells q))), (1, .box 32 (avs (Attr.cells a))), (0, .box 52 (avs (Effect.cells x)))] 5 ?_
   refine AWp.cnd ((x.kind == 2)) (fun h2 => ?_) (fun h2 => ?_)
   ·
    refine AWp.he [.run 2] 38 [(5, .ptr 1 0), (7, .ptr 3 0), (8, .ptr 4 0)] [(4, .box 44 [vi 0, vi 0, vs (⟨#[]⟩)]), (3, .box 44 (avs (Val.cells q))), (1, .box 32 (avs (Attr.cells a)))] 5 ?_
    exact leZ (by rw [h1, h2]; first | done | kernel_rfl)
   ·
    refine AWp.hz [.run 2] 38 [(4, .ptr 0 0), (5, .ptr 1 0), (7, .ptr 3 0), (8, .ptr 4 0), (10, vi x.kind), (21, vb (x.kind == 3))] [(4, .box 44 [vi 0, vi 0, vs (⟨#[]⟩)]), (3, .box 44 (avs (Val.cells v))), (1, .box 32 (avs (Attr.cells a))), (0, .box 52 (avs (Effect.cells x)))] 5 ?_
    refine AWp.cnd ((x.kind == 3)) (fun h3 => ?_) (fun h3 => ?_)
    ·
     refine AWp.he [.run 4, .call 65 [vi v.n, vi x.n] (vi (addM v.n x.n)) [] 0 (addM_ok v.n x.n), .run 2] 38 [(5, .ptr 1 0), (7, .ptr 3 0), (8, .ptr 4 0)] [(4, .box 44 [vi 0, vi 0, vs (⟨#[]⟩)]), (3, .box 44 [vi v.kind, vi (addM v.n x.n), vs v.s]), (1, .box 32 (avs (Attr.cells a)))] 5 ?_
     exact leZ (by rw [h1, h2, h3]; first | done | kernel_rfl)
    ·
     refine AWp.hz [.run 2] 38 [(5, .ptr 1 0), (7, .ptr 3 0), (8, .ptr 4 0), (29, vb (x.kind == 4))] [(4, .box 44 [vi 0, vi 0, vs (⟨#[]⟩)]), (3, .box 44 (avs (Val.cells v))), (1, .box 32 (avs (Attr.cells a)))] 5 ?_
     refine AWp.cnd ((x.kind == 4)) (fun h4 => ?_) (fun h4 => ?_)
     ·
      refine AWp.he [.run 5] 38 [(5, .ptr 1 0), (7, .ptr 3 0), (8, .ptr 4 0)] [(4, .box 44 [vi 0, vi 0, vs (⟨#[]⟩)]), (3, .box 44 [vi v.kind, vi (IntKind.i64.wrap (1 - v.n)), vs v.s]), (1, .box 32 (avs (Attr.cells a)))] 5 ?_
      exact leZ (by rw [h1, h2, h3, h4]; first | done | kernel_rfl)
     ·
      refine AWp.skip ?_
      exact leZ (by rw [h1, h2, h3, h4]; first | done | kernel_rfl)
 ·
  refine AWp.hz [.run 2, .call 66 [.agg (avs (Attr.cells a)), .agg [vi (bif (x.kind == 1) then a.kind else (bif (x.kind == 2) then q.kind else v.kind)), vi (bif (x.kind == 1) then x.n else (bif (x.kind == 2) then q.n else (bif (x.kind == 3) then addM v.n x.n else (bif (x.kind == 4) then IntKind.i64.wrap (1 - v.n) else v.n)))), vs (bif (x.kind == 1) then ⟨#[]⟩ else (bif (x.kind == 2) then q.s else v.s))]] (.agg (avs (Val.cells (vLimitM a (⟨(bif (x.kind == 1) then a.kind else (bif (x.kind == 2) then q.kind else v.kind)), (bif (x.kind == 1) then x.n else (bif (x.kind == 2) then q.n else (bif (x.kind == 3) then addM v.n x.n else (bif (x.kind == 4) then IntKind.i64.wrap (1 - v.n) else v.n)))), (bif (x.kind == 1) then ⟨#[]⟩ else (bif (x.kind == 2) then q.s else v.s))⟩ : Val))))) [] 0 (vLimitM_ok a (⟨(bif (x.kind == 1) then a.kind else (bif (x.kind == 2) then q.kind else v.kind)), (bif (x.kind == 1) then x.n else (bif (x.kind == 2) then q.n else (bif (x.kind == 3) then addM v.n x.n else (bif (x.kind == 4) then IntKind.i64.wrap (1 - v.n) else v.n)))), (bif (x.kind == 1) then ⟨#[]⟩ else (bif (x.kind == 2) then q.s else v.s))⟩ : Val)), .run 1] 38 [(8, .ptr 4 0)] [(4, .box 44 (avs (Val.cells (vLimitM a (⟨(bif (x.kind == 1) then a.kind else (bif (x.kind == 2) then q.kind else v.kind)), (bif (x.kind == 1) then x.n else (bif (x.kind == 2) then q.n else (bif (x.kind == 3) then addM v.n x.n else (bif (x.kind == 4) then IntKind.i64.wrap (1 - v.n) else v.n)))), (bif (x.kind == 1) then ⟨#[]⟩ else (bif (x.kind == 2) then q.s else v.s))⟩ : Val)))))] 5 ?_
  refine AWp.ret ?_
  exact leafR (r := .agg (avs (Val.cells (vLimitM a (⟨(bif (x.kind == 1) then a.kind else (bif (x.kind == 2) then q.kind else v.kind)), (bif (x.kind == 1) then x.n else (bif (x.kind == 2) then q.n else (bif (x.kind == 3) then addM v.n x.n else (bif (x.kind == 4) then IntKind.i64.wrap (1 - v.n) else v.n)))), (bif (x.kind == 1) then ⟨#[]⟩ else (bif (x.kind == 2) then q.s else v.s))⟩ : Val))))) (by show (.agg (avs (Val.cells (vLimitM a (⟨(bif (x.kind == 1) then a.kind else (bif (x.kind == 2) then q.kind else v.kind)), (bif (x.kind == 1) then x.n else (bif (x.kind == 2) then q.n else (bif (x.kind == 3) then addM v.n x.n else (bif (x.kind == 4) then IntKind.i64.wrap (1 - v.n) else v.n)))), (bif (x.kind == 1) then ⟨#[]⟩ else (bif (x.kind == 2) then q.s else v.s))⟩ : Val)))) : AV) = .agg (avs (Val.cells (afterM x a q v))); unfold afterM; first | done | kernel_rfl)
def doneM (x : Effect) (a : Attr) (q v : Val) : Val :=
  (rLimitM a (⟨(bif ((x.kind == 1) || !(x.kind == 2)) then v.kind else q.kind), (bif (x.kind == 1) then x.n else (bif (x.kind == 2) then q.n else (bif (x.kind == 3) then IntKind.i64.wrap (v.n + x.n) else (bif (x.kind == 4) then IntKind.i64.wrap (1 - v.n) else v.n)))), (bif ((x.kind == 1) || !(x.kind == 2)) then v.s else q.s)⟩ : Val))
theorem doneM_ok (x : Effect) (a : Attr) (q v : Val) :
 ACalls Tryd.prog G_ 49 [.agg (avs (Effect.cells x)), .agg (avs (Attr.cells a)), .agg (avs (Val.cells q)), .agg (avs (Val.cells v))] [] 0 (fun r τ => r = .agg (avs (Val.cells (doneM x a q v))) ∧ τ = []) := by
 refine ACalls.body Tryd.func49 rfl 36 [(0, .agg (avs (Effect.cells x))), (1, .agg (avs (Attr.cells a))), (2, .agg (avs (Val.cells q))), (3, .agg (avs (Val.cells v)))] ?_
 refine AWp.hz [.run 5] 36 [(4, .ptr 0 0), (5, .ptr 1 0), (6, .ptr 2 0), (7, .ptr 3 0), (8, .ptr 4 0)] [(4, .box 44 [vi 0, vi 0, vs (⟨#[]⟩)]), (3, .box 44 (avs (Val.cells v))), (2, .box 44 (avs (Val.cells q))), (1, .box 32 (avs (Attr.cells a))), (0, .box 52 (avs (Effect.cells x)))] 5 ?_
 refine AWp.join (Z 36 [(5, .ptr 1 0), (7, .ptr 3 0), (8, .ptr 4 0)] [(4, .box 44 [vi 0, vi 0, vs (⟨#[]⟩)]), (3, .box 44 [vi (bif ((x.kind == 1) || !(x.kind == 2)) then v.kind else q.kind), vi (bif (x.kind == 1) then x.n else (bif (x.kind == 2) then q.n else (bif (x.kind == 3) then IntKind.i64.wrap (v.n + x.n) else (bif (x.kind == 4) then IntKind.i64.wrap (1 - v.n) else v.n)))), vs (bif ((x.kind == 1) || !(x.kind == 2)) then v.s else q.s)]), (1, .box 32 (avs (Attr.cells a)))] 5) ?_ ?_
 ·
  refine AWp.hz [.run 2] 36 [(4, .ptr 0 0), (5, .ptr 1 0), (6, .ptr 2 0), (7, .ptr 3 0), (8, .ptr 4 0), (10, vi x.kind)] [(4, .box 44 [vi 0, vi 0, vs (⟨#[]⟩)]), (3, .box 44 (avs (Val.cells v))), (2, .box 44 (avs (Val.cells q))), (1, .box 32 (avs (Attr.cells a))), (0, .box 52 (avs (Effect.cells x)))] 5 ?_
  refine AWp.block ?_
  refine AWp.hz [.run 2] 36 [(4, .ptr 0 0), (5, .ptr 1 0), (6, .ptr 2 0), (7, .ptr 3 0), (8, .ptr 4 0), (10, vi x.kind), (11, vb (x.kind == 1))] [(4, .box 44 [vi 0, vi 0, vs (⟨#[]⟩)]), (3, .box 44 (avs (Val.cells v))), (2, .box 44 (avs (Val.cells q))), (1, .box 32 (avs (Attr.cells a))), (0, .box 52 (avs (Effect.cells x)))] 5 ?_
  refine AWp.cnd ((x.kind == 1)) (fun h1 => ?_) (fun h1 => ?_)
  ·
   refine AWp.he [.run 4] 36 [(5, .ptr 1 0), (7, .ptr 3 0), (8, .ptr 4 0)] [(4, .box 44 [vi 0, vi 0, vs (⟨#[]⟩)]), (3, .box 44 [vi v.kind, vi x.n, vs v.s]), (1, .box 32 (avs (Attr.cells a)))] 5 ?_
   exact leZ (by rw [h1]; first | done | kernel_rfl)
  ·
   refine AWp.hz [.run 2] 36 [(4, .ptr 0 0), (5, .ptr 1 0), (6, .ptr 2 0), (7, .ptr 3 0), (8, .ptr 4 0), (10, vi x.kind), (16, vb (x.kind == 2))] [(4, .box 44 [vi 0, vi 0, vs (⟨#[]⟩)]), (3, .box 44 (avs (Val.cells v))), (2, .box 44 (avs (Val.cells q))), (1, .box 32 (avs (Attr.cells a))), (0, .box 52 (avs (Effect.cells x)))] 5 ?_
   refine AWp.cnd ((x.kind == 2)) (fun h2 => ?_) (fun h2 => ?_)
   ·
    refine AWp.he [.run 2] 36 [(5, .ptr 1 0), (7, .ptr 3 0), (8, .ptr 4 0)] [(4, .box 44 [vi 0, vi 0, vs (⟨#[]⟩)]), (3, .box 44 (avs (Val.cells q))), (1, .box 32 (avs (Attr.cells a)))] 5 ?_
    exact leZ (by rw [h1, h2]; first | done | kernel_rfl)
   ·
    refine AWp.hz [.run 2] 36 [(4, .ptr 0 0), (5, .ptr 1 0), (7, .ptr 3 0), (8, .ptr 4 0), (10, vi x.kind), (19, vb (x.kind == 3))] [(4, .box 44 [vi 0, vi 0, vs (⟨#[]⟩)]), (3, .box 44 (avs (Val.cells v))), (1, .box 32 (avs (Attr.cells a))), (0, .box 52 (avs (Effect.cells x)))] 5 ?_
    refine AWp.cnd ((x.kind == 3)) (fun h3 => ?_) (fun h3 => ?_)
    ·
     refine AWp.he [.run 7] 36 [(5, .ptr 1 0), (7, .ptr 3 0), (8, .ptr 4 0)] [(4, .box 44 [vi 0, vi 0, vs (⟨#[]⟩)]), (3, .box 44 [vi v.kind, vi (IntKind.i64.wrap (v.n + x.n)), vs v.s]), (1, .box 32 (avs (Attr.cells a)))] 5 ?_
     exact leZ (by rw [h1, h2, h3]; first | done | kernel_rfl)
    ·
     refine AWp.hz [.run 2] 36 [(5, .ptr 1 0), (7, .ptr 3 0), (8, .ptr 4 0), (27, vb (x.kind == 4))] [(4, .box 44 [vi 0, vi 0, vs (⟨#[]⟩)]), (3, .box 44 (avs (Val.cells v))), (1, .box 32 (avs (Attr.cells a)))] 5 ?_
     refine AWp.cnd ((x.kind == 4)) (fun h4 => ?_) (fun h4 => ?_)
     ·
      refine AWp.he [.run 5] 36 [(5, .ptr 1 0), (7, .ptr 3 0), (8, .ptr 4 0)] [(4, .box 44 [vi 0, vi 0, vs (⟨#[]⟩)]), (3, .box 44 [vi v.kind, vi (IntKind.i64.wrap (1 - v.n)), vs v.s]), (1, .box 32 (avs (Attr.cells a)))] 5 ?_
      exact leZ (by rw [h1, h2, h3, h4]; first | done | kernel_rfl)
     ·
      refine AWp.skip ?_
      exact leZ (by rw [h1, h2, h3, h4]; first | done | kernel_rfl)
 ·
  refine AWp.hz [.run 2, .call 68 [.agg (avs (Attr.cells a)), .agg [vi (bif ((x.kind == 1) || !(x.kind == 2)) then v.kind else q.kind), vi (bif (x.kind == 1) then x.n else (bif (x.kind == 2) then q.n else (bif (x.kind == 3) then IntKind.i64.wrap (v.n + x.n) else (bif (x.kind == 4) then IntKind.i64.wrap (1 - v.n) else v.n)))), vs (bif ((x.kind == 1) || !(x.kind == 2)) then v.s else q.s)]] (.agg (avs (Val.cells (rLimitM a (⟨(bif ((x.kind == 1) || !(x.kind == 2)) then v.kind else q.kind), (bif (x.kind == 1) then x.n else (bif (x.kind == 2) then q.n else (bif (x.kind == 3) then IntKind.i64.wrap (v.n + x.n) else (bif (x.kind == 4) then IntKind.i64.wrap (1 - v.n) else v.n)))), (bif ((x.kind == 1) || !(x.kind == 2)) then v.s else q.s)⟩ : Val))))) [] 0 (rLimitM_ok a (⟨(bif ((x.kind == 1) || !(x.kind == 2)) then v.kind else q.kind), (bif (x.kind == 1) then x.n else (bif (x.kind == 2) then q.n else (bif (x.kind == 3) then IntKind.i64.wrap (v.n + x.n) else (bif (x.kind == 4) then IntKind.i64.wrap (1 - v.n) else v.n)))), (bif ((x.kind == 1) || !(x.kind == 2)) then v.s else q.s)⟩ : Val)), .run 1] 36 [(8, .ptr 4 0)] [(4, .box 44 (avs (Val.cells (rLimitM a (⟨(bif ((x.kind == 1) || !(x.kind == 2)) then v.kind else q.kind), (bif (x.kind == 1) then x.n else (bif (x.kind == 2) then q.n else (bif (x.kind == 3) then IntKind.i64.wrap (v.n + x.n) else (bif (x.kind == 4) then IntKind.i64.wrap (1 - v.n) else v.n)))), (bif ((x.kind == 1) || !(x.kind == 2)) then v.s else q.s)⟩ : Val)))))] 5 ?_
  refine AWp.ret ?_
  exact leafR (r := .agg (avs (Val.cells (rLimitM a (⟨(bif ((x.kind == 1) || !(x.kind == 2)) then v.kind else q.kind), (bif (x.kind == 1) then x.n else (bif (x.kind == 2) then q.n else (bif (x.kind == 3) then IntKind.i64.wrap (v.n + x.n) else (bif (x.kind == 4) then IntKind.i64.wrap (1 - v.n) else v.n)))), (bif ((x.kind == 1) || !(x.kind == 2)) then v.s else q.s)⟩ : Val))))) (by show (.agg (avs (Val.cells (rLimitM a (⟨(bif ((x.kind == 1) || !(x.kind == 2)) then v.kind else q.kind), (bif (x.kind == 1) then x.n else (bif (x.kind == 2) then q.n else (bif (x.kind == 3) then IntKind.i64.wrap (v.n + x.n) else (bif (x.kind == 4) then IntKind.i64.wrap (1 - v.n) else v.n)))), (bif ((x.kind == 1) || !(x.kind == 2)) then v.s else q.s)⟩ : Val)))) : AV) = .agg (avs (Val.cells (doneM x a q v))); unfold doneM; first | done | kernel_rfl)
def cflagM (x : ByteArray) (u v : Bool) : Attr :=
  (⟨x, 1, 0, 0, [], u, v⟩ : Attr)
theorem cflagM_ok (x : ByteArray) (u v : Bool) :
 ACalls Tryd.prog G_ 51 [vs x, vb u, vb v] [] 0 (fun r τ => r = .agg (avs (Attr.cells (cflagM x u v))) ∧ τ = []) := by
 refine ACalls.body Tryd.func51 rfl 11 [(0, vs x), (1, vb u), (2, vb v)] ?_
 refine AWp.hz [.run 1] 11 [(0, vs x), (1, vb u), (2, vb v), (6, .ptr 0 0)] [(0, .box 32 [vs (⟨#[]⟩), vi 0, vi 0, vi 0, .rv (.v (.slice none 0 0)), vb false, vb false])] 1 ?_
 refine AWp.hz [.run 5] 11 [(6, .ptr 0 0)] [(0, .box 32 [vs x, vi 1, vi 0, vi 0, .rv (.v (.slice none 0 0)), vb u, vb v])] 1 ?_
 refine AWp.le (Le.nilsB (s' := Z 11 [(6, .ptr 0 0)] [(0, .box 32 [vs x, vi 1, vi 0, vi 0, .rv (.sl 1 (([]).map strC)), vb u, vb v])] 1) 0 [none, none, none, none, some 1, none, none] (by kernel_rfl)) ?_
 refine AWp.ret ?_
 exact leafR (r := .agg [vs x, vi 1, vi 0, vi 0, .rv (.sl 1 (([]).map strC)), vb u, vb v]) (by show (.agg [vs x, vi 1, vi 0, vi 0, .rv (.sl 1 (([]).map strC)), vb u, vb v] : AV) = .agg (avs (Attr.cells (cflagM x u v))); unfold cflagM; first | done | kernel_rfl)
def cnumberM (x : ByteArray) (a b : Int) (u : Bool) : Attr :=
  (⟨x, 2, a, b, [], u, false⟩ : Attr)
theorem cnumberM_ok (x : ByteArray) (a b : Int) (u : Bool) :
 ACalls Tryd.prog G_ 53 [vs x, vi a, vi b, vb u] [] 0 (fun r τ => r = .agg (avs (Attr.cells (cnumberM x a b u))) ∧ τ = []) := by
 refine ACalls.body Tryd.func53 rfl 14 [(0, vs x), (1, vi a), (2, vi b), (3, vb u)] ?_
 refine AWp.hz [.run 1] 14 [(0, vs x), (1, vi a), (2, vi b), (3, vb u), (8, .ptr 0 0)] [(0, .box 32 [vs (⟨#[]⟩), vi 0, vi 0, vi 0, .rv (.v (.slice none 0 0)), vb false, vb false])] 1 ?_
 refine AWp.hz [.run 6] 14 [(8, .ptr 0 0)] [(0, .box 32 [vs x, vi 2, vi a, vi b, .rv (.v (.slice none 0 0)), vb u, vb false])] 1 ?_
 refine AWp.le (Le.nilsB (s' := Z 14 [(8, .ptr 0 0)] [(0, .box 32 [vs x, vi 2, vi a, vi b, .rv (.sl 1 (([]).map strC)), vb u, vb false])] 1) 0 [none, none, none, none, some 1, none, none] (by kernel_rfl)) ?_
 refine AWp.ret ?_
 exact leafR (r := .agg [vs x, vi 2, vi a, vi b, .rv (.sl 1 (([]).map strC)), vb u, vb false]) (by show (.agg [vs x, vi 2, vi a, vi b, .rv (.sl 1 (([]).map strC)), vb u, vb false] : AV) = .agg (avs (Attr.cells (cnumberM x a b u))); unfold cnumberM; first | done | kernel_rfl)
def csetsM (x y : ByteArray) (n : Int) : Command :=
  (⟨x, ⟨⟨#[]⟩, 0, 0, 0, [], false, false⟩, [(⟨1, y, n⟩ : Effect)]⟩ : Command)
theorem csetsM_ok (x y : ByteArray) (n : Int) :
 ACalls Tryd.prog G_ 52 [vs x, vs y, vi n] [] 0 (fun r τ => r = .agg (avs (Command.cells (csetsM x y n))) ∧ τ = []) := by
 refine ACalls.body Tryd.func52 rfl 13 [(0, vs x), (1, vs y), (2, vi n)] ?_
 refine AWp.hz [.run 1] 13 [(0, vs x), (1, vs y), (2, vi n), (6, .ptr 0 0)] [(0, .box 38 [vs (⟨#[]⟩), vs (⟨#[]⟩), vi 0, vi 0, vi 0, .rv (.v (.slice none 0 0)), vb false, vb false, .rv (.v (.slice none 0 0))])] 1 ?_
 refine AWp.hz [.run 4, .lit 52 3 (List.map Effect.cells [(⟨1, y, n⟩ : Effect)]), .run 2] 13 [(6, .ptr 0 0)] [(0, .box 38 [vs x, vs (⟨#[]⟩), vi 0, vi 0, vi 0, .rv (.v (.slice none 0 0)), vb false, vb false, .rv (.sl 3 (([(⟨1, y, n⟩ : Effect)]).map Effect.cells))])] 1 ?_
 refine AWp.le (Le.nilsB (s' := Z 13 [(6, .ptr 0 0)] [(0, .box 38 [vs x, vs (⟨#[]⟩), vi 0, vi 0, vi 0, .rv (.sl 1 (([]).map strC)), vb false, vb false, .rv (.sl 3 (([(⟨1, y, n⟩ : Effect)]).map Effect.cells))])] 1) 0 [none, none, none, none, none, some 1, none, none, none] (by kernel_rfl)) ?_
 refine AWp.ret ?_
 exact leafR (r := .agg [vs x, vs (⟨#[]⟩), vi 0, vi 0, vi 0, .rv (.sl 1 (([]).map strC)), vb false, vb false, .rv (.sl 3 (([(⟨1, y, n⟩ : Effect)]).map Effect.cells))]) (by show (.agg [vs x, vs (⟨#[]⟩), vi 0, vi 0, vi 0, .rv (.sl 1 (([]).map strC)), vb false, vb false, .rv (.sl 3 (([(⟨1, y, n⟩ : Effect)]).map Effect.cells))] : AV) = .agg (avs (Command.cells (csetsM x y n))); unfold csetsM; first | done | kernel_rfl)
def rflagM (x : ByteArray) (u v : Bool) : Attr :=
  (⟨x, 1, 0, 0, [], u, v⟩ : Attr)
theorem rflagM_ok (x : ByteArray) (u v : Bool) :
 ACalls Tryd.prog G_ 55 [vs x, vb u, vb v] [] 0 (fun r τ => r = .agg (avs (Attr.cells (rflagM x u v))) ∧ τ = []) := by
 refine ACalls.body Tryd.func55 rfl 11 [(0, vs x), (1, vb u), (2, vb v)] ?_
 refine AWp.hz [.run 1] 11 [(0, vs x), (1, vb u), (2, vb v), (6, .ptr 0 0)] [(0, .box 32 [vs (⟨#[]⟩), vi 0, vi 0, vi 0, .rv (.v (.slice none 0 0)), vb false, vb false])] 1 ?_
 refine AWp.hz [.run 5] 11 [(6, .ptr 0 0)] [(0, .box 32 [vs x, vi 1, vi 0, vi 0, .rv (.v (.slice none 0 0)), vb u, vb v])] 1 ?_
 refine AWp.le (Le.nilsB (s' := Z 11 [(6, .ptr 0 0)] [(0, .box 32 [vs x, vi 1, vi 0, vi 0, .rv (.sl 1 (([]).map strC)), vb u, vb v])] 1) 0 [none, none, none, none, some 1, none, none] (by kernel_rfl)) ?_
 refine AWp.ret ?_
 exact leafR (r := .agg [vs x, vi 1, vi 0, vi 0, .rv (.sl 1 (([]).map strC)), vb u, vb v]) (by show (.agg [vs x, vi 1, vi 0, vi 0, .rv (.sl 1 (([]).map strC)), vb u, vb v] : AV) = .agg (avs (Attr.cells (rflagM x u v))); unfold rflagM; first | done | kernel_rfl)
def rnumberM (x : ByteArray) (a b : Int) (u : Bool) : Attr :=
  (⟨x, 2, a, b, [], u, false⟩ : Attr)
theorem rnumberM_ok (x : ByteArray) (a b : Int) (u : Bool) :
 ACalls Tryd.prog G_ 54 [vs x, vi a, vi b, vb u] [] 0 (fun r τ => r = .agg (avs (Attr.cells (rnumberM x a b u))) ∧ τ = []) := by
 refine ACalls.body Tryd.func54 rfl 14 [(0, vs x), (1, vi a), (2, vi b), (3, vb u)] ?_
 refine AWp.hz [.run 1] 14 [(0, vs x), (1, vi a), (2, vi b), (3, vb u), (8, .ptr 0 0)] [(0, .box 32 [vs (⟨#[]⟩), vi 0, vi 0, vi 0, .rv (.v (.slice none 0 0)), vb false, vb false])] 1 ?_
 refine AWp.hz [.run 6] 14 [(8, .ptr 0 0)] [(0, .box 32 [vs x, vi 2, vi a, vi b, .rv (.v (.slice none 0 0)), vb u, vb false])] 1 ?_
 refine AWp.le (Le.nilsB (s' := Z 14 [(8, .ptr 0 0)] [(0, .box 32 [vs x, vi 2, vi a, vi b, .rv (.sl 1 (([]).map strC)), vb u, vb false])] 1) 0 [none, none, none, none, some 1, none, none] (by kernel_rfl)) ?_
 refine AWp.ret ?_
 exact leafR (r := .agg [vs x, vi 2, vi a, vi b, .rv (.sl 1 (([]).map strC)), vb u, vb false]) (by show (.agg [vs x, vi 2, vi a, vi b, .rv (.sl 1 (([]).map strC)), vb u, vb false] : AV) = .agg (avs (Attr.cells (rnumberM x a b u))); unfold rnumberM; first | done | kernel_rfl)
def rsetsM (x y : ByteArray) (n : Int) : Command :=
  (⟨x, ⟨⟨#[]⟩, 0, 0, 0, [], false, false⟩, [(⟨1, y, n⟩ : Effect)]⟩ : Command)
theorem rsetsM_ok (x y : ByteArray) (n : Int) :
 ACalls Tryd.prog G_ 56 [vs x, vs y, vi n] [] 0 (fun r τ => r = .agg (avs (Command.cells (rsetsM x y n))) ∧ τ = []) := by
 refine ACalls.body Tryd.func56 rfl 13 [(0, vs x), (1, vs y), (2, vi n)] ?_
 refine AWp.hz [.run 1] 13 [(0, vs x), (1, vs y), (2, vi n), (6, .ptr 0 0)] [(0, .box 38 [vs (⟨#[]⟩), vs (⟨#[]⟩), vi 0, vi 0, vi 0, .rv (.v (.slice none 0 0)), vb false, vb false, .rv (.v (.slice none 0 0))])] 1 ?_
 refine AWp.hz [.run 4, .lit 52 3 (List.map Effect.cells [(⟨1, y, n⟩ : Effect)]), .run 2] 13 [(6, .ptr 0 0)] [(0, .box 38 [vs x, vs (⟨#[]⟩), vi 0, vi 0, vi 0, .rv (.v (.slice none 0 0)), vb false, vb false, .rv (.sl 3 (([(⟨1, y, n⟩ : Effect)]).map Effect.cells))])] 1 ?_
 refine AWp.le (Le.nilsB (s' := Z 13 [(6, .ptr 0 0)] [(0, .box 38 [vs x, vs (⟨#[]⟩), vi 0, vi 0, vi 0, .rv (.sl 1 (([]).map strC)), vb false, vb false, .rv (.sl 3 (([(⟨1, y, n⟩ : Effect)]).map Effect.cells))])] 1) 0 [none, none, none, none, none, some 1, none, none, none] (by kernel_rfl)) ?_
 refine AWp.ret ?_
 exact leafR (r := .agg [vs x, vs (⟨#[]⟩), vi 0, vi 0, vi 0, .rv (.sl 1 (([]).map strC)), vb false, vb false, .rv (.sl 3 (([(⟨1, y, n⟩ : Effect)]).map Effect.cells))]) (by show (.agg [vs x, vs (⟨#[]⟩), vi 0, vi 0, vi 0, .rv (.sl 1 (([]).map strC)), vb false, vb false, .rv (.sl 3 (([(⟨1, y, n⟩ : Effect)]).map Effect.cells))] : AV) = .agg (avs (Command.cells (rsetsM x y n))); unfold rsetsM; first | done | kernel_rfl)
end Go.Proofs.YtelohjccoimnaaaDoor
