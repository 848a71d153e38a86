/- Effects: the contracts. -/
import Derived.Test.YtnnlaccdendkpaaGreatPA4
import Derived.Test.YtnnlaccdendkpaaGreatPMs
namespace Go.Proofs.YtnnlaccdendkpaaGreat
open Go Go.Av Go.Hh Go.Proofs
set_option maxRecDepth 100000
set_option maxHeartbeats 4000000
theorem placeM_lt (c : Cluster) (x : ByteArray) : placeM c x < (c.attrs.length : Int) := by
 unfold placeM placeM_L1
 cases h : scanN (placeM_B1 c x) 0 c.attrs.length with
 | none => show (-1 : Int) < _; omega
 | some r =>
  obtain ⟨j, _, h2, h3, _⟩ := scanN_get h
  unfold placeM_B1 at h3
  simp only [Nat.zero_add] at h2
  rw [List.getElem?_eq_getElem h2] at h3
  simp only [cond_eq_ite] at h3
  split at h3
  ·cases h3; show (j : Int) < _; omega
  ·cases h3
theorem fit_take {c : Cluster} (h : FitA c) (_ : Nat) : FitA c := h
def rattrM (c : Cluster) (x : ByteArray) : Attr × Bool :=
 (bif decide (placeM c x < 0) then ((⟨⟨#[]⟩, 0, 0, 0, [], false, false⟩ : Attr), false) else (match (c.attrs)[(placeM c x).toNat]? with | some e1_ => (e1_, true) | none => default))
theorem rattrM_ok (c : Cluster) (x : ByteArray) :
 ACalls Tryz.prog G_ 75 [.agg (avs (Cluster.cells c)), vs x] [] 0 (fun r τ => r = .tuple [.agg (avs (Attr.cells ((rattrM c x).1))), vb ((rattrM c x).2)] ∧ τ = []) := by
 refine ACalls.body Tryz.func75 rfl 18 [(0, .agg (avs (Cluster.cells c))), (1, vs x)] ?_
 refine AWp.hz [.run 3] 18 [(1, vs x), (2, .ptr 0 0), (4, .ptr 1 0)] [(1, .box 77 [vs (⟨#[]⟩), vi 0, vi 0, vi 0, .rv (.v (.slice none 0 0)), vb false, vb false]), (0, .box 43 (avs (Cluster.cells c)))] 2 ?_
 refine AWp.hz [.run 2, .call 85 [.agg (avs (Cluster.cells c)), vs x] (vi (placeM c x)) [] 0 (placeM_ok c x), .run 1] 18 [(2, .ptr 0 0), (4, .ptr 1 0), (6, vi (placeM c x))] [(1, .box 77 [vs (⟨#[]⟩), vi 0, vi 0, vi 0, .rv (.v (.slice none 0 0)), vb false, vb false]), (0, .box 43 (avs (Cluster.cells c)))] 2 ?_
 refine AWp.seq ?_
 refine AWp.hz [.run 2] 18 [(2, .ptr 0 0), (4, .ptr 1 0), (6, vi (placeM c x)), (11, vb (decide (placeM c x < 0)))] [(1, .box 77 [vs (⟨#[]⟩), vi 0, vi 0, vi 0, .rv (.v (.slice none 0 0)), vb false, vb false]), (0, .box 43 (avs (Cluster.cells c)))] 2 ?_
 refine AWp.cnd (decide (placeM c x < 0)) (fun h1 => ?_) (fun h1 => ?_)
 ·
  have h1' := of_decide_eq_true h1
  refine AWp.hz [.run 3] 18 [(4, .ptr 1 0), (5, vb false)] [(1, .box 77 [vs (⟨#[]⟩), vi 0, vi 0, vi 0, .rv (.v (.slice none 0 0)), vb false, vb false])] 2 ?_
  refine AWp.le (Le.nilsB (s' := Z 18 [(4, .ptr 1 0), (5, vb false)] [(1, .box 77 [vs (⟨#[]⟩), vi 0, vi 0, vi 0, .rv (.sl 1 (([]).map strC)), vb false, vb false])] 2) 1 [none, none, none, none, some 1, none, none] (by kernel_rfl)) ?_
  refine AWp.ret ?_
  exact leafR (r := .tuple [.agg [vs (⟨#[]⟩), vi 0, vi 0, vi 0, .rv (.sl 1 (([]).map strC)), vb false, vb false], vb false]) (by show (.tuple [.agg [vs (⟨#[]⟩), vi 0, vi 0, vi 0, .rv (.sl 1 (([]).map strC)), vb false, vb false], vb false] : AV) = .tuple [.agg (avs (Attr.cells ((rattrM c x).1))), vb ((rattrM c x).2)]; unfold rattrM; (try rw [h1]); try kernel_rfl)
 ·
  have h1' := of_decide_eq_false h1
  refine AWp.skip ?_
  have := placeM_lt c x
  have ht2 : (placeM c x) = (((placeM c x).toNat : Nat) : Int) := (Int.toNat_of_nonneg (by omega)).symm
  obtain ⟨e1_, he1_⟩ : ∃ e_, (c.attrs)[(placeM c x).toNat]? = some e_ := ⟨_, List.getElem?_eq_getElem (by omega)⟩
  refine AWp.hz [.run 3, .slot 15 (vi (placeM c x)) (vi (((placeM c x).toNat : Nat) : Int)) (congrArg vi ht2), .idx Attr.cells c.attrs 7 ((placeM c x).toNat) e1_ he1_, .run 3] 18 [(4, .ptr 1 0), (5, vb true)] [(1, .box 77 (avs (Attr.cells e1_)))] 2 ?_
  refine AWp.ret ?_
  exact leafR (r := .tuple [.agg (avs (Attr.cells e1_)), vb true]) (by show (.tuple [.agg (avs (Attr.cells e1_)), vb true] : AV) = .tuple [.agg (avs (Attr.cells ((rattrM c x).1))), vb ((rattrM c x).2)]; unfold rattrM; (try simp only [he1_]); (try rw [h1]); try kernel_rfl)
def alikeM (a b : Attr) : Bool :=
 ((a.kind == b.kind) && sEqualM a.enum b.enum)
theorem alikeM_ok (a b : Attr) :
 ACalls Tryz.prog G_ 108 [.agg (avs (Attr.cells a)), .agg (avs (Attr.cells b))] [] 0 (fun r τ => r = vb (alikeM a b) ∧ τ = []) := by
 refine ACalls.body Tryz.func108 rfl 17 [(0, .agg (avs (Attr.cells a))), (1, .agg (avs (Attr.cells b)))] ?_
 refine AWp.hz [.run 3] 17 [(2, .ptr 0 0), (3, .ptr 1 0)] [(1, .box 77 (avs (Attr.cells b))), (0, .box 77 (avs (Attr.cells a)))] 2 ?_
 refine AWp.join (Z 17 [(4, vb ((a.kind == b.kind) && sEqualM a.enum b.enum))] [] 2) ?_ ?_
 ·
  refine AWp.region ?_
  refine AOps.hg [.run 6] ((a.kind == b.kind)) 17 (fun b_ => [(2, .ptr 0 0), (3, .ptr 1 0), (10, vb b_)]) [(1, .box 77 (avs (Attr.cells b))), (0, .box 77 (avs (Attr.cells a)))] 2 (fun hg1 => ?_) (fun hg1 => ?_)
  ·
   refine AOps.he [.run 4, .call 109 [.rv (.sl 1 (a.enum.map strC)), .rv (.sl 1 (b.enum.map strC))] (vb (sEqualM a.enum b.enum)) [] 0 (sEqualM_ok a.enum b.enum), .run 2] 17 [(4, vb (sEqualM a.enum b.enum))] [] 2 ?_
   exact leZ (by rw [hg1]; try kernel_rfl)
  ·
   refine AOps.he [.run 7] 17 [(4, vb false)] [] 2 ?_
   exact leZ (by rw [hg1]; try kernel_rfl)
 ·
  refine AWp.ret ?_
  exact leafR (r := vb ((a.kind == b.kind) && sEqualM a.enum b.enum)) (by unfold alikeM; try kernel_rfl)
def suitsM (x : Effect) (a b : Attr) : Bool :=
 (bif (x.kind == 1) then ((a.kind != 4) && (fitsM a (⟨a.kind, x.n, ⟨#[]⟩⟩ : Val) == 0)) else (bif (x.kind == 2) then alikeM a b else (bif (x.kind == 3) then (a.kind == 2) else (a.kind == 1))))
abbrev suitsM_c1 (a : Attr) : Nat × AObj := (1, .box 77 (avs (Attr.cells a)))
theorem suitsM_ok (x : Effect) (a b : Attr) :
 ACalls Tryz.prog G_ 104 [.agg (avs (Effect.cells x)), .agg (avs (Attr.cells a)), .agg (avs (Attr.cells b))] [] 0 (fun r τ => r = vb (suitsM x a b) ∧ τ = []) := by
 refine ACalls.body Tryz.func104 rfl 37 [(0, .agg (avs (Effect.cells x))), (1, .agg (avs (Attr.cells a))), (2, .agg (avs (Attr.cells b)))] ?_
 refine AWp.hz [.run 4] 37 [(3, .ptr 0 0), (4, .ptr 1 0), (5, .ptr 2 0)] [(2, .box 77 (avs (Attr.cells b))), (suitsM_c1 a), (0, .box 74 (avs (Effect.cells x)))] 3 ?_
 refine AWp.seq ?_
 refine AWp.hz [.run 2] 37 [(3, .ptr 0 0), (4, .ptr 1 0), (5, .ptr 2 0), (8, vi x.kind)] [(2, .box 77 (avs (Attr.cells b))), (suitsM_c1 a), (0, .box 74 (avs (Effect.cells x)))] 3 ?_
 refine AWp.block ?_
 refine AWp.hz [.run 2] 37 [(3, .ptr 0 0), (4, .ptr 1 0), (5, .ptr 2 0), (8, vi x.kind), (9, vb (x.kind == 1))] [(2, .box 77 (avs (Attr.cells b))), (suitsM_c1 a), (0, .box 74 (avs (Effect.cells x)))] 3 ?_
 refine AWp.cnd ((x.kind == 1)) (fun h1 => ?_) (fun h1 => ?_)
 ·
  refine AWp.join (Z 37 [(6, vb ((a.kind != 4) && (fitsM a (⟨a.kind, x.n, ⟨#[]⟩⟩ : Val) == 0)))] [] 3) ?_ ?_
  ·
   refine AWp.region ?_
   refine AOps.hg [.run 4] ((a.kind != 4)) 37 (fun b_ => [(3, .ptr 0 0), (4, .ptr 1 0), (14, vb b_)]) [(suitsM_c1 a), (0, .box 74 (avs (Effect.cells x)))] 3 (fun hg2 => ?_) (fun hg2 => ?_)
   ·
    refine AOps.he [.run 6, .call 107 [.agg (avs (Attr.cells a)), .agg [vi a.kind, vi x.n, vs (⟨#[]⟩)]] (vi (fitsM a (⟨a.kind, x.n, ⟨#[]⟩⟩ : Val))) [] 0 (fitsM_ok a (⟨a.kind, x.n, ⟨#[]⟩⟩ : Val)), .run 3] 37 [(6, vb (fitsM a (⟨a.kind, x.n, ⟨#[]⟩⟩ : Val) == 0))] [] 3 ?_
    exact leZ (by rw [hg2]; try kernel_rfl)
   ·
    refine AOps.he [.run 10] 37 [(6, vb false)] [] 3 ?_
    exact leZ (by rw [hg2]; try kernel_rfl)
  ·
   refine AWp.ret ?_
   exact leafR (r := vb ((a.kind != 4) && (fitsM a (⟨a.kind, x.n, ⟨#[]⟩⟩ : Val) == 0))) (by unfold suitsM; (try rw [h1]); try kernel_rfl)
 ·
  refine AWp.hz [.run 2] 37 [(4, .ptr 1 0), (5, .ptr 2 0), (8, vi x.kind), (24, vb (x.kind == 2))] [(2, .box 77 (avs (Attr.cells b))), (suitsM_c1 a)] 3 ?_
  refine AWp.cnd ((x.kind == 2)) (fun h3 => ?_) (fun h3 => ?_)
  ·
   refine AWp.hz [.run 2, .call 108 [.agg (avs (Attr.cells a)), .agg (avs (Attr.cells b))] (vb (alikeM a b)) [] 0 (alikeM_ok a b), .run 1] 37 [(6, vb (alikeM a b))] [] 3 ?_
   refine AWp.ret ?_
   exact leafR (r := vb (alikeM a b)) (by unfold suitsM; (try rw [h1]); (try rw [h3]); try kernel_rfl)
  ·
   refine AWp.hz [.run 2] 37 [(4, .ptr 1 0), (29, vb (x.kind == 3))] [(suitsM_c1 a)] 3 ?_
   refine AWp.cnd ((x.kind == 3)) (fun h4 => ?_) (fun h4 => ?_)
   ·
    refine AWp.hz [.run 4] 37 [(6, vb (a.kind == 2))] [] 3 ?_
    refine AWp.ret ?_
    exact leafR (r := vb (a.kind == 2)) (by unfold suitsM; (try rw [h1]); (try rw [h3]); (try rw [h4]); try kernel_rfl)
   ·
    refine AWp.skip ?_
    refine AWp.hz [.run 4] 37 [(6, vb (a.kind == 1))] [] 3 ?_
    refine AWp.ret ?_
    exact leafR (r := vb (a.kind == 1)) (by unfold suitsM; (try rw [h1]); (try rw [h3]); (try rw [h4]); try kernel_rfl)
def rsuitsM (x : Effect) (a b : Attr) : Bool :=
 (bif (x.kind == 1) then ((a.kind != 4) && (rfitsM a (⟨a.kind, x.n, ⟨#[]⟩⟩ : Val) == 0)) else (bif (x.kind == 2) then ((b.kind == a.kind) && sameNamesM b.enum a.enum) else (bif (x.kind == 3) then (a.kind == 2) else (a.kind == 1))))
abbrev rsuitsM_c1 (a : Attr) : Nat × AObj := (1, .box 77 (avs (Attr.cells a)))
theorem rsuitsM_ok (x : Effect) (a b : Attr) :
 ACalls Tryz.prog G_ 103 [.agg (avs (Effect.cells x)), .agg (avs (Attr.cells a)), .agg (avs (Attr.cells b))] [] 0 (fun r τ => r = vb (rsuitsM x a b) ∧ τ = []) := by
 refine ACalls.body Tryz.func103 rfl 46 [(0, .agg (avs (Effect.cells x))), (1, .agg (avs (Attr.cells a))), (2, .agg (avs (Attr.cells b)))] ?_
 refine AWp.hz [.run 4] 46 [(3, .ptr 0 0), (4, .ptr 1 0), (5, .ptr 2 0)] [(2, .box 77 (avs (Attr.cells b))), (rsuitsM_c1 a), (0, .box 74 (avs (Effect.cells x)))] 3 ?_
 refine AWp.seq ?_
 refine AWp.hz [.run 2] 46 [(3, .ptr 0 0), (4, .ptr 1 0), (5, .ptr 2 0), (8, vi x.kind)] [(2, .box 77 (avs (Attr.cells b))), (rsuitsM_c1 a), (0, .box 74 (avs (Effect.cells x)))] 3 ?_
 refine AWp.block ?_
 refine AWp.hz [.run 2] 46 [(3, .ptr 0 0), (4, .ptr 1 0), (5, .ptr 2 0), (8, vi x.kind), (9, vb (x.kind == 1))] [(2, .box 77 (avs (Attr.cells b))), (rsuitsM_c1 a), (0, .box 74 (avs (Effect.cells x)))] 3 ?_
 refine AWp.cnd ((x.kind == 1)) (fun h1 => ?_) (fun h1 => ?_)
 ·
  refine AWp.join (Z 46 [(6, vb ((a.kind != 4) && (rfitsM a (⟨a.kind, x.n, ⟨#[]⟩⟩ : Val) == 0)))] [] 3) ?_ ?_
  ·
   refine AWp.region ?_
   refine AOps.hg [.run 4] ((a.kind != 4)) 46 (fun b_ => [(3, .ptr 0 0), (4, .ptr 1 0), (14, vb b_)]) [(rsuitsM_c1 a), (0, .box 74 (avs (Effect.cells x)))] 3 (fun hg2 => ?_) (fun hg2 => ?_)
   ·
    refine AOps.he [.run 6, .call 106 [.agg (avs (Attr.cells a)), .agg [vi a.kind, vi x.n, vs (⟨#[]⟩)]] (vi (rfitsM a (⟨a.kind, x.n, ⟨#[]⟩⟩ : Val))) [] 0 (rfitsM_ok a (⟨a.kind, x.n, ⟨#[]⟩⟩ : Val)), .run 3] 46 [(6, vb (rfitsM a (⟨a.kind, x.n, ⟨#[]⟩⟩ : Val) == 0))] [] 3 ?_
    exact leZ (by rw [hg2]; try kernel_rfl)
   ·
    refine AOps.he [.run 10] 46 [(6, vb false)] [] 3 ?_
    exact leZ (by rw [hg2]; try kernel_rfl)
  ·
   refine AWp.ret ?_
   exact leafR (r := vb ((a.kind != 4) && (rfitsM a (⟨a.kind, x.n, ⟨#[]⟩⟩ : Val) == 0))) (by unfold rsuitsM; (try rw [h1]); try kernel_rfl)
 ·
  refine AWp.hz [.run 2] 46 [(4, .ptr 1 0), (5, .ptr 2 0), (8, vi x.kind), (24, vb (x.kind == 2))] [(2, .box 77 (avs (Attr.cells b))), (rsuitsM_c1 a)] 3 ?_
  refine AWp.cnd ((x.kind == 2)) (fun h3 => ?_) (fun h3 => ?_)
  ·
   refine AWp.join (Z 46 [(6, vb ((b.kind == a.kind) && sameNamesM b.enum a.enum))] [] 3) ?_ ?_
   ·
    refine AWp.region ?_
    refine AOps.hg [.run 6] ((b.kind == a.kind)) 46 (fun b_ => [(4, .ptr 1 0), (5, .ptr 2 0), (31, vb b_)]) [(2, .box 77 (avs (Attr.cells b))), (rsuitsM_c1 a)] 3 (fun hg4 => ?_) (fun hg4 => ?_)
    ·
     refine AOps.he [.run 4, .call 102 [.rv (.sl 1 (b.enum.map strC)), .rv (.sl 1 (a.enum.map strC))] (vb (sameNamesM b.enum a.enum)) [] 0 (sameNamesM_ok b.enum a.enum), .run 2] 46 [(6, vb (sameNamesM b.enum a.enum))] [] 3 ?_
     exact leZ (by rw [hg4]; try kernel_rfl)
    ·
     refine AOps.he [.run 7] 46 [(6, vb false)] [] 3 ?_
     exact leZ (by rw [hg4]; try kernel_rfl)
   ·
    refine AWp.ret ?_
    exact leafR (r := vb ((b.kind == a.kind) && sameNamesM b.enum a.enum)) (by unfold rsuitsM; (try rw [h1]); (try rw [h3]); try kernel_rfl)
  ·
   refine AWp.hz [.run 2] 46 [(4, .ptr 1 0), (38, vb (x.kind == 3))] [(rsuitsM_c1 a)] 3 ?_
   refine AWp.cnd ((x.kind == 3)) (fun h5 => ?_) (fun h5 => ?_)
   ·
    refine AWp.hz [.run 4] 46 [(6, vb (a.kind == 2))] [] 3 ?_
    refine AWp.ret ?_
    exact leafR (r := vb (a.kind == 2)) (by unfold rsuitsM; (try rw [h1]); (try rw [h3]); (try rw [h5]); try kernel_rfl)
   ·
    refine AWp.skip ?_
    refine AWp.hz [.run 4] 46 [(6, vb (a.kind == 1))] [] 3 ?_
    refine AWp.ret ?_
    exact leafR (r := vb (a.kind == 1)) (by unfold rsuitsM; (try rw [h1]); (try rw [h3]); (try rw [h5]); try kernel_rfl)
def effectM (c : Cluster) (b : Attr) (x : Effect) : Int :=
 (bif (decide (x.kind < 1) || decide (x.kind > 4)) then 7 else (bif !((attrM c x.attr).2) then 8 else (bif !(((attrM c x.attr).1).writable) then 24 else (bif !(suitsM x ((attrM c x.attr).1) b) then 11 else (bif ((x.kind == 3) && (satM x.n != x.n)) then 2 else (bif (((x.kind == 2) || (x.kind == 4)) && (x.n != 0)) then 4 else 0))))))
abbrev effectM_c1 (x : Effect) : Nat × AObj := (2, .box 74 (avs (Effect.cells x)))
abbrev effectM_c2 (b : Attr) : Nat × AObj := (1, .box 77 (avs (Attr.cells b)))
theorem effectM_ok (c : Cluster) (b : Attr) (x : Effect) (hw : FitA c) :
 ACalls Tryz.prog G_ 101 [.agg (avs (Cluster.cells c)), .agg (avs (Attr.cells b)), .agg (avs (Effect.cells x))] [] 0 (fun r τ => r = vi (effectM c b x) ∧ τ = []) := by
 refine ACalls.body Tryz.func101 rfl 58 [(0, .agg (avs (Cluster.cells c))), (1, .agg (avs (Attr.cells b))), (2, .agg (avs (Effect.cells x)))] ?_
 refine AWp.hz [.run 4] 58 [(3, .ptr 0 0), (4, .ptr 1 0), (5, .ptr 2 0)] [(effectM_c1 x), (effectM_c2 b), (0, .box 43 (avs (Cluster.cells c)))] 3 ?_
 refine AWp.seq ?_
 refine AWp.join (Z 58 [(3, .ptr 0 0), (4, .ptr 1 0), (5, .ptr 2 0), (16, vb (decide (x.kind < 1) || decide (x.kind > 4)))] [(2, .box 74 (avs (Effect.cells x))), (1, .box 77 (avs (Attr.cells b))), (0, .box 43 (avs (Cluster.cells c)))] 3) ?_ ?_
 ·
  refine AWp.region ?_
  refine AOps.hg [.run 4] (decide (x.kind < 1)) 58 (fun b_ => [(3, .ptr 0 0), (4, .ptr 1 0), (5, .ptr 2 0), (12, vb b_)]) [(effectM_c1 x), (effectM_c2 b), (0, .box 43 (avs (Cluster.cells c)))] 3 (fun hg1 => ?_) (fun hg1 => ?_)
  ·
   have hg1' := of_decide_eq_true hg1
   refine AOps.he [.run 4] 58 [(3, .ptr 0 0), (4, .ptr 1 0), (5, .ptr 2 0), (16, vb true)] [(effectM_c1 x), (effectM_c2 b), (0, .box 43 (avs (Cluster.cells c)))] 3 ?_
   exact leZ (by rw [hg1]; try kernel_rfl)
  ·
   have hg1' := of_decide_eq_false hg1
   refine AOps.he [.run 4] 58 [(3, .ptr 0 0), (4, .ptr 1 0), (5, .ptr 2 0), (16, vb (decide (x.kind > 4)))] [(effectM_c1 x), (effectM_c2 b), (0, .box 43 (avs (Cluster.cells c)))] 3 ?_
   exact leZ (by rw [hg1]; try kernel_rfl)
 ·
  refine AWp.cnd ((decide (x.kind < 1) || decide (x.kind > 4))) (fun h2 => ?_) (fun h2 => ?_)
  ·
   refine AWp.hz [.run 1] 58 [(6, vi 7)] [] 3 ?_
   refine AWp.ret ?_
   exact leafR (r := vi 7) (by unfold effectM; (try rw [h2]); try kernel_rfl)
  ·
   have h2l := or_fl h2
   have h2l' := of_decide_eq_false h2l
   have h2r := or_fr h2
   have h2r' := of_decide_eq_false h2r
   refine AWp.skip ?_
   refine AWp.hz [.run 3, .call 68 [.agg (avs (Cluster.cells c)), vs x.attr] (.tuple [.agg (avs (Attr.cells ((attrM c x.attr).1))), vb ((attrM c x.attr).2)]) [] 0 (attrM_ok c x.attr (by first | assumption | exact std_fit _ (List.mem_of_getElem? (by assumption)) | exact fit_s1 (by assumption) | exact std_fit | exact fun c hc => std_fit c (List.mem_of_mem_take (List.mem_of_mem_drop hc)) | exact Nat.le_trans (apply_len _ _ _ _) (by omega) | exact parts_fit (by assumption) | exact parts_fit (by assumption) _ (List.mem_of_getElem? (by assumption)) | (simp; done) | exact ⟨by simp, by simp⟩ | exact hw _ (List.mem_of_getElem? (by assumption)) | exact hw.1 _ (List.mem_of_getElem? (by assumption)) | exact (hw.2 _ (List.mem_of_getElem? (by assumption))).1 | exact (hw.2 _ (List.mem_of_getElem? (by assumption))).2 | omega | exact fit_take hw _)), .run 6] 58 [(4, .ptr 1 0), (5, .ptr 2 0), (7, .ptr 3 0), (8, vb ((attrM c x.attr).2))] [(3, .box 77 (avs (Attr.cells ((attrM c x.attr).1)))), (effectM_c1 x), (effectM_c2 b)] 4 ?_
   refine AWp.seq ?_
   refine AWp.hz [.run 2] 58 [(4, .ptr 1 0), (5, .ptr 2 0), (7, .ptr 3 0), (25, vb (!((attrM c x.attr).2)))] [(3, .box 77 (avs (Attr.cells ((attrM c x.attr).1)))), (effectM_c1 x), (effectM_c2 b)] 4 ?_
   refine AWp.cnd (!((attrM c x.attr).2)) (fun h3 => ?_) (fun h3 => ?_)
   ·
    refine AWp.hz [.run 1] 58 [(6, vi 8)] [] 4 ?_
    refine AWp.ret ?_
    exact leafR (r := vi 8) (by unfold effectM; (try rw [h2]); (try rw [h3]); try kernel_rfl)
   ·
    refine AWp.skip ?_
    refine AWp.seq ?_
    refine AWp.hz [.run 3] 58 [(4, .ptr 1 0), (5, .ptr 2 0), (7, .ptr 3 0), (28, vb (!(((attrM c x.attr).1).writable)))] [(3, .box 77 (avs (Attr.cells ((attrM c x.attr).1)))), (effectM_c1 x), (effectM_c2 b)] 4 ?_
    refine AWp.cnd (!(((attrM c x.attr).1).writable)) (fun h4 => ?_) (fun h4 => ?_)
    ·
     refine AWp.hz [.run 1] 58 [(6, vi 24)] [] 4 ?_
     refine AWp.ret ?_
     exact leafR (r := vi 24) (by unfold effectM; (try rw [h2]); (try rw [h3]); (try rw [h4]); try kernel_rfl)
    ·
     refine AWp.skip ?_
     refine AWp.seq ?_
     refine AWp.hz [.run 3, .call 104 [.agg (avs (Effect.cells x)), .agg (avs (Attr.cells ((attrM c x.attr).1))), .agg (avs (Attr.cells b))] (vb (suitsM x ((attrM c x.attr).1) b)) [] 0 (suitsM_ok x ((attrM c x.attr).1) b), .run 1] 58 [(5, .ptr 2 0), (33, vb (!(suitsM x ((attrM c x.attr).1) b)))] [(effectM_c1 x)] 4 ?_
     refine AWp.cnd (!(suitsM x ((attrM c x.attr).1) b)) (fun h5 => ?_) (fun h5 => ?_)
     ·
      refine AWp.hz [.run 1] 58 [(6, vi 11)] [] 4 ?_
      refine AWp.ret ?_
      exact leafR (r := vi 11) (by unfold effectM; (try rw [h2]); (try rw [h3]); (try rw [h4]); (try rw [h5]); try kernel_rfl)
     ·
      refine AWp.skip ?_
      refine AWp.seq ?_
      refine AWp.split ((x.kind == 3)) (fun h6 => ?_) (fun h6 => ?_)
      ·
       refine AWp.dz [.ptr 2 0, vi x.kind, vb true, vb true, .ptr 2 2, vi x.n, vi (satM x.n), .ptr 2 2, vi x.n, vb (satM x.n != x.n), vb (satM x.n != x.n)] 58 [(5, .ptr 2 0), (44, vb (satM x.n != x.n))] [(effectM_c1 x)] 4 ?_ ?_
       ·
        refine DSteps.cons (DStep.va) ?_
        refine DSteps.cons (DStep.va) ?_
        refine DSteps.cons ((DStep.val (v := vb (x.kind == 3)) (by kernel_rfl) (by kernel_rfl)).cast (congrArg vb h6)) ?_
        refine DSteps.cons (DStep.va) ?_
        refine DSteps.cons (DStep.va) ?_
        refine DSteps.cons (DStep.va) ?_
        refine DSteps.cons (DStep.call rfl (by kernel_rfl) (by kernel_rfl) (by kernel_rfl) (args := [vi x.n]) (by kernel_rfl) (by kernel_rfl) (satM_ok x.n) (by kernel_rfl) (Nat.le_of_ble_eq_true (by kernel_rfl))) ?_
        refine DSteps.cons (DStep.va) ?_
        refine DSteps.cons (DStep.va) ?_
        refine DSteps.cons (DStep.va) ?_
        refine DSteps.cons (DStep.va) ?_
        exact DSteps.nl
       refine AWp.cnd ((satM x.n != x.n)) (fun h7 => ?_) (fun h7 => ?_)
       ·
        refine AWp.hz [.run 1] 58 [(6, vi 2)] [] 4 ?_
        refine AWp.ret ?_
        exact leafR (r := vi 2) (by unfold effectM; (try rw [h2]); (try rw [h3]); (try rw [h4]); (try rw [h5]); (try rw [h6]); (try rw [h7]); try kernel_rfl)
       ·
        refine AWp.skip ?_
        refine AWp.seq ?_
        refine AWp.join (Z 58 [(57, vb (((x.kind == 2) || (x.kind == 4)) && (x.n != 0)))] [] 4) ?_ ?_
        ·
         refine AWp.region ?_
         refine AOps.hg [.run 4] ((x.kind == 2)) 58 (fun b_ => [(5, .ptr 2 0), (48, vb b_)]) [(effectM_c1 x)] 4 (fun hg8 => ?_) (fun hg8 => ?_)
         ·
          refine AOps.he [.run 9] 58 [(57, vb (x.n != 0))] [] 4 ?_
          exact leZ (by rw [hg8]; try kernel_rfl)
         ·
          refine AOps.hg [.run 5] ((x.kind == 4)) 58 (fun b_ => [(5, .ptr 2 0), (53, vb b_)]) [(effectM_c1 x)] 4 (fun hg9 => ?_) (fun hg9 => ?_)
          ·
           refine AOps.he [.run 4] 58 [(57, vb (x.n != 0))] [] 4 ?_
           exact leZ (by rw [hg8, hg9]; try kernel_rfl)
          ·
           refine AOps.he [.run 4] 58 [(57, vb false)] [] 4 ?_
           exact leZ (by rw [hg8, hg9]; try kernel_rfl)
        ·
         refine AWp.cnd ((((x.kind == 2) || (x.kind == 4)) && (x.n != 0))) (fun h10 => ?_) (fun h10 => ?_)
         ·
          have h10l := and_tl h10
          have h10r := and_tr h10
          refine AWp.hz [.run 1] 58 [(6, vi 4)] [] 4 ?_
          refine AWp.ret ?_
          exact leafR (r := vi 4) (by unfold effectM; (try rw [h2]); (try rw [h3]); (try rw [h4]); (try rw [h5]); (try rw [h6]); (try rw [h7]); (try rw [h10]); try kernel_rfl)
         ·
          refine AWp.skip ?_
          refine AWp.hz [.run 1] 58 [(6, vi 0)] [] 4 ?_
          refine AWp.ret ?_
          exact leafR (r := vi 0) (by unfold effectM; (try rw [h2]); (try rw [h3]); (try rw [h4]); (try rw [h5]); (try rw [h6]); (try rw [h7]); (try rw [h10]); try kernel_rfl)
      ·
       refine AWp.dz [.ptr 2 0, vi x.kind, vb false, vb false, .tuple [], .tuple [], .tuple [], .tuple [], .tuple [], .tuple [], vb false] 58 [(5, .ptr 2 0), (44, vb false)] [(effectM_c1 x)] 4 ?_ ?_
       ·
        refine DSteps.cons (DStep.va) ?_
        refine DSteps.cons (DStep.va) ?_
        refine DSteps.cons ((DStep.val (v := vb (x.kind == 3)) (by kernel_rfl) (by kernel_rfl)).cast (congrArg vb h6)) ?_
        refine DSteps.cons (DStep.va) ?_
        refine DSteps.cons (DStep.skip (by kernel_rfl)) ?_
        refine DSteps.cons (DStep.skip (by kernel_rfl)) ?_
        refine DSteps.cons (DStep.skip (by kernel_rfl)) ?_
        refine DSteps.cons (DStep.skip (by kernel_rfl)) ?_
        refine DSteps.cons (DStep.skip (by kernel_rfl)) ?_
        refine DSteps.cons (DStep.skip (by kernel_rfl)) ?_
        refine DSteps.cons (DStep.va) ?_
        exact DSteps.nl
       refine AWp.cndF ?_
       refine AWp.skip ?_
       refine AWp.seq ?_
       refine AWp.join (Z 58 [(57, vb (((x.kind == 2) || (x.kind == 4)) && (x.n != 0)))] [] 4) ?_ ?_
       ·
        refine AWp.region ?_
        refine AOps.hg [.run 4] ((x.kind == 2)) 58 (fun b_ => [(5, .ptr 2 0), (48, vb b_)]) [(effectM_c1 x)] 4 (fun hg11 => ?_) (fun hg11 => ?_)
        ·
         refine AOps.he [.run 9] 58 [(57, vb (x.n != 0))] [] 4 ?_
         exact leZ (by rw [hg11]; try kernel_rfl)
        ·
         refine AOps.hg [.run 5] ((x.kind == 4)) 58 (fun b_ => [(5, .ptr 2 0), (53, vb b_)]) [(effectM_c1 x)] 4 (fun hg12 => ?_) (fun hg12 => ?_)
         ·
          refine AOps.he [.run 4] 58 [(57, vb (x.n != 0))] [] 4 ?_
          exact leZ (by rw [hg11, hg12]; try kernel_rfl)
         ·
          refine AOps.he [.run 4] 58 [(57, vb false)] [] 4 ?_
          exact leZ (by rw [hg11, hg12]; try kernel_rfl)
       ·
        refine AWp.cnd ((((x.kind == 2) || (x.kind == 4)) && (x.n != 0))) (fun h13 => ?_) (fun h13 => ?_)
        ·
         have h13l := and_tl h13
         have h13r := and_tr h13
         refine AWp.hz [.run 1] 58 [(6, vi 4)] [] 4 ?_
         refine AWp.ret ?_
         exact leafR (r := vi 4) (by unfold effectM; (try rw [h2]); (try rw [h3]); (try rw [h4]); (try rw [h5]); (try rw [h6]); (try rw [h13]); try kernel_rfl)
        ·
         refine AWp.skip ?_
         refine AWp.hz [.run 1] 58 [(6, vi 0)] [] 4 ?_
         refine AWp.ret ?_
         exact leafR (r := vi 0) (by unfold effectM; (try rw [h2]); (try rw [h3]); (try rw [h4]); (try rw [h5]); (try rw [h6]); (try rw [h13]); try kernel_rfl)
def reffectM (c : Cluster) (b : Attr) (x : Effect) : Int :=
 (bif (decide (x.kind < 1) || decide (x.kind > 4)) then 7 else (bif !((rattrM c x.attr).2) then 8 else (bif !(((rattrM c x.attr).1).writable) then 24 else (bif !(rsuitsM x ((rattrM c x.attr).1) b) then 11 else (bif ((x.kind == 3) && (decide (x.n < -1099511627776) || decide (x.n > 1099511627776))) then 2 else (bif (((x.kind == 2) || (x.kind == 4)) && (x.n != 0)) then 4 else 0))))))
abbrev reffectM_c1 (x : Effect) : Nat × AObj := (2, .box 74 (avs (Effect.cells x)))
abbrev reffectM_c2 (b : Attr) : Nat × AObj := (1, .box 77 (avs (Attr.cells b)))
theorem reffectM_ok (c : Cluster) (b : Attr) (x : Effect) :
 ACalls Tryz.prog G_ 98 [.agg (avs (Cluster.cells c)), .agg (avs (Attr.cells b)), .agg (avs (Effect.cells x))] [] 0 (fun r τ => r = vi (reffectM c b x) ∧ τ = []) := by
 refine ACalls.body Tryz.func98 rfl 60 [(0, .agg (avs (Cluster.cells c))), (1, .agg (avs (Attr.cells b))), (2, .agg (avs (Effect.cells x)))] ?_
 refine AWp.hz [.run 4] 60 [(3, .ptr 0 0), (4, .ptr 1 0), (5, .ptr 2 0)] [(reffectM_c1 x), (reffectM_c2 b), (0, .box 43 (avs (Cluster.cells c)))] 3 ?_
 refine AWp.seq ?_
 refine AWp.join (Z 60 [(3, .ptr 0 0), (4, .ptr 1 0), (5, .ptr 2 0), (16, vb (decide (x.kind < 1) || decide (x.kind > 4)))] [(2, .box 74 (avs (Effect.cells x))), (1, .box 77 (avs (Attr.cells b))), (0, .box 43 (avs (Cluster.cells c)))] 3) ?_ ?_
 ·
  refine AWp.region ?_
  refine AOps.hg [.run 4] (decide (x.kind < 1)) 60 (fun b_ => [(3, .ptr 0 0), (4, .ptr 1 0), (5, .ptr 2 0), (12, vb b_)]) [(reffectM_c1 x), (reffectM_c2 b), (0, .box 43 (avs (Cluster.cells c)))] 3 (fun hg1 => ?_) (fun hg1 => ?_)
  ·
   have hg1' := of_decide_eq_true hg1
   refine AOps.he [.run 4] 60 [(3, .ptr 0 0), (4, .ptr 1 0), (5, .ptr 2 0), (16, vb true)] [(reffectM_c1 x), (reffectM_c2 b), (0, .box 43 (avs (Cluster.cells c)))] 3 ?_
   exact leZ (by rw [hg1]; try kernel_rfl)
  ·
   have hg1' := of_decide_eq_false hg1
   refine AOps.he [.run 4] 60 [(3, .ptr 0 0), (4, .ptr 1 0), (5, .ptr 2 0), (16, vb (decide (x.kind > 4)))] [(reffectM_c1 x), (reffectM_c2 b), (0, .box 43 (avs (Cluster.cells c)))] 3 ?_
   exact leZ (by rw [hg1]; try kernel_rfl)
 ·
  refine AWp.cnd ((decide (x.kind < 1) || decide (x.kind > 4))) (fun h2 => ?_) (fun h2 => ?_)
  ·
   refine AWp.hz [.run 1] 60 [(6, vi 7)] [] 3 ?_
   refine AWp.ret ?_
   exact leafR (r := vi 7) (by unfold reffectM; (try rw [h2]); try kernel_rfl)
  ·
   have h2l := or_fl h2
   have h2l' := of_decide_eq_false h2l
   have h2r := or_fr h2
   have h2r' := of_decide_eq_false h2r
   refine AWp.skip ?_
   refine AWp.hz [.run 3, .call 75 [.agg (avs (Cluster.cells c)), vs x.attr] (.tuple [.agg (avs (Attr.cells ((rattrM c x.attr).1))), vb ((rattrM c x.attr).2)]) [] 0 (rattrM_ok c x.attr), .run 6] 60 [(4, .ptr 1 0), (5, .ptr 2 0), (7, .ptr 3 0), (8, vb ((rattrM c x.attr).2))] [(3, .box 77 (avs (Attr.cells ((rattrM c x.attr).1)))), (reffectM_c1 x), (reffectM_c2 b)] 4 ?_
   refine AWp.seq ?_
   refine AWp.hz [.run 2] 60 [(4, .ptr 1 0), (5, .ptr 2 0), (7, .ptr 3 0), (25, vb (!((rattrM c x.attr).2)))] [(3, .box 77 (avs (Attr.cells ((rattrM c x.attr).1)))), (reffectM_c1 x), (reffectM_c2 b)] 4 ?_
   refine AWp.cnd (!((rattrM c x.attr).2)) (fun h3 => ?_) (fun h3 => ?_)
   ·
    refine AWp.hz [.run 1] 60 [(6, vi 8)] [] 4 ?_
    refine AWp.ret ?_
    exact leafR (r := vi 8) (by unfold reffectM; (try rw [h2]); (try rw [h3]); try kernel_rfl)
   ·
    refine AWp.skip ?_
    refine AWp.seq ?_
    refine AWp.hz [.run 3] 60 [(4, .ptr 1 0), (5, .ptr 2 0), (7, .ptr 3 0), (28, vb (!(((rattrM c x.attr).1).writable)))] [(3, .box 77 (avs (Attr.cells ((rattrM c x.attr).1)))), (reffectM_c1 x), (reffectM_c2 b)] 4 ?_
    refine AWp.cnd (!(((rattrM c x.attr).1).writable)) (fun h4 => ?_) (fun h4 => ?_)
    ·
     refine AWp.hz [.run 1] 60 [(6, vi 24)] [] 4 ?_
     refine AWp.ret ?_
     exact leafR (r := vi 24) (by unfold reffectM; (try rw [h2]); (try rw [h3]); (try rw [h4]); try kernel_rfl)
    ·
     refine AWp.skip ?_
     refine AWp.seq ?_
     refine AWp.hz [.run 3, .call 103 [.agg (avs (Effect.cells x)), .agg (avs (Attr.cells ((rattrM c x.attr).1))), .agg (avs (Attr.cells b))] (vb (rsuitsM x ((rattrM c x.attr).1) b)) [] 0 (rsuitsM_ok x ((rattrM c x.attr).1) b), .run 1] 60 [(5, .ptr 2 0), (33, vb (!(rsuitsM x ((rattrM c x.attr).1) b)))] [(reffectM_c1 x)] 4 ?_
     refine AWp.cnd (!(rsuitsM x ((rattrM c x.attr).1) b)) (fun h5 => ?_) (fun h5 => ?_)
     ·
      refine AWp.hz [.run 1] 60 [(6, vi 11)] [] 4 ?_
      refine AWp.ret ?_
      exact leafR (r := vi 11) (by unfold reffectM; (try rw [h2]); (try rw [h3]); (try rw [h4]); (try rw [h5]); try kernel_rfl)
     ·
      refine AWp.skip ?_
      refine AWp.seq ?_
      refine AWp.join (Z 60 [(5, .ptr 2 0), (46, vb ((x.kind == 3) && (decide (x.n < -1099511627776) || decide (x.n > 1099511627776))))] [(2, .box 74 (avs (Effect.cells x)))] 4) ?_ ?_
      ·
       refine AWp.region ?_
       refine AOps.hg [.run 4] ((x.kind == 3)) 60 (fun b_ => [(5, .ptr 2 0), (37, vb b_)]) [(reffectM_c1 x)] 4 (fun hg6 => ?_) (fun hg6 => ?_)
       ·
        refine AOps.hg [.run 4] (decide (x.n < -1099511627776)) 60 (fun b_ => [(5, .ptr 2 0), (37, vb true), (41, vb b_)]) [(reffectM_c1 x)] 4 (fun hg7 => ?_) (fun hg7 => ?_)
        ·
         have hg7' := of_decide_eq_true hg7
         refine AOps.he [.run 5] 60 [(5, .ptr 2 0), (46, vb true)] [(reffectM_c1 x)] 4 ?_
         exact leZ (by rw [hg6, hg7]; try kernel_rfl)
        ·
         have hg7' := of_decide_eq_false hg7
         refine AOps.he [.run 5] 60 [(5, .ptr 2 0), (46, vb (decide (x.n > 1099511627776)))] [(reffectM_c1 x)] 4 ?_
         exact leZ (by rw [hg6, hg7]; try kernel_rfl)
       ·
        refine AOps.he [.run 9] 60 [(5, .ptr 2 0), (46, vb false)] [(reffectM_c1 x)] 4 ?_
        exact leZ (by rw [hg6]; try kernel_rfl)
      ·
       refine AWp.cnd (((x.kind == 3) && (decide (x.n < -1099511627776) || decide (x.n > 1099511627776)))) (fun h8 => ?_) (fun h8 => ?_)
       ·
        have h8l := and_tl h8
        have h8r := and_tr h8
        refine AWp.hz [.run 1] 60 [(6, vi 2)] [] 4 ?_
        refine AWp.ret ?_
        exact leafR (r := vi 2) (by unfold reffectM; (try rw [h2]); (try rw [h3]); (try rw [h4]); (try rw [h5]); (try rw [h8]); try kernel_rfl)
       ·
        refine AWp.skip ?_
        refine AWp.seq ?_
        refine AWp.join (Z 60 [(59, vb (((x.kind == 2) || (x.kind == 4)) && (x.n != 0)))] [] 4) ?_ ?_
        ·
         refine AWp.region ?_
         refine AOps.hg [.run 4] ((x.kind == 2)) 60 (fun b_ => [(5, .ptr 2 0), (50, vb b_)]) [(reffectM_c1 x)] 4 (fun hg9 => ?_) (fun hg9 => ?_)
         ·
          refine AOps.he [.run 9] 60 [(59, vb (x.n != 0))] [] 4 ?_
          exact leZ (by rw [hg9]; try kernel_rfl)
         ·
          refine AOps.hg [.run 5] ((x.kind == 4)) 60 (fun b_ => [(5, .ptr 2 0), (55, vb b_)]) [(reffectM_c1 x)] 4 (fun hg10 => ?_) (fun hg10 => ?_)
          ·
           refine AOps.he [.run 4] 60 [(59, vb (x.n != 0))] [] 4 ?_
           exact leZ (by rw [hg9, hg10]; try kernel_rfl)
          ·
           refine AOps.he [.run 4] 60 [(59, vb false)] [] 4 ?_
           exact leZ (by rw [hg9, hg10]; try kernel_rfl)
        ·
         refine AWp.cnd ((((x.kind == 2) || (x.kind == 4)) && (x.n != 0))) (fun h11 => ?_) (fun h11 => ?_)
         ·
          have h11l := and_tl h11
          have h11r := and_tr h11
          refine AWp.hz [.run 1] 60 [(6, vi 4)] [] 4 ?_
          refine AWp.ret ?_
          exact leafR (r := vi 4) (by unfold reffectM; (try rw [h2]); (try rw [h3]); (try rw [h4]); (try rw [h5]); (try rw [h8]); (try rw [h11]); try kernel_rfl)
         ·
          refine AWp.skip ?_
          refine AWp.hz [.run 1] 60 [(6, vi 0)] [] 4 ?_
          refine AWp.ret ?_
          exact leafR (r := vi 0) (by unfold reffectM; (try rw [h2]); (try rw [h3]); (try rw [h4]); (try rw [h5]); (try rw [h8]); (try rw [h11]); try kernel_rfl)
end Go.Proofs.YtnnlaccdendkpaaGreat
