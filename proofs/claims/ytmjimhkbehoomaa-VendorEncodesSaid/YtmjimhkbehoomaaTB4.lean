/- Vendor: the small functions. -/
import Derived.Test.YtmjimhkbehoomaaTB3
namespace Go.Proofs.Ytmjimhkbehoomaa
open Go Go.Av Go.Hh Go.Proofs
set_option maxRecDepth 100000
set_option maxHeartbeats 4000000
def vattrM_B2 (h : Home) (f : FieldV) (e1_ : Cluster) (k2_ : Nat) : Option (Attr × Bool) :=
  (match (e1_.attrs)[k2_]? with | some e2_ => (bif beqS e2_.name f.attr then some (e2_, true) else none) | none => none)
def vattrM_L2 (h : Home) (f : FieldV) (e1_ : Cluster) : Option (Attr × Bool) := scanN (vattrM_B2 h f e1_) 0 e1_.attrs.length
def vattrM_B1 (h : Home) (f : FieldV) (k1_ : Nat) : Option (Attr × Bool) :=
  (match (h.clusters)[k1_]? with | some e1_ => (bif !beqS e1_.name f.cluster then none else ((vattrM_L2 h f e1_).or (some ((⟨⟨#[]⟩, 0, 0, 0, [], false, false⟩ : Attr), false)))) | none => none)
def vattrM_L1 (h : Home) (f : FieldV) : Option (Attr × Bool) := scanN (vattrM_B1 h f) 0 h.clusters.length
def vattrM (h : Home) (f : FieldV) : Attr × Bool :=
  ((vattrM_L1 h f).getD ((⟨⟨#[]⟩, 0, 0, 0, [], false, false⟩ : Attr), false))
theorem vattrM_ok (h : Home) (f : FieldV) :
 ACalls Try.prog G_ 46 [.agg (avs (Home.cells h)), .agg (avs (FieldV.cells f))] [] 0 (fun r τ => r = .tuple [.agg (avs (Attr.cells ((vattrM h f).1))), vb ((vattrM h f).2)] ∧ τ = []) := by
 refine ACalls.body Try.func46 rfl 41 [(0, .agg (avs (Home.cells h))), (1, .agg (avs (FieldV.cells f)))] ?_
 refine AWp.hz [.run 4] 41 [(2, .ptr 0 0), (3, .ptr 1 0), (4, .ptr 2 0)] [(2, .box 51 [vs (⟨#[]⟩), vi 0, vi 0, vi 0, .rv (.v (.slice none 0 0)), vb false, vb false]), (1, .box 64 (avs (FieldV.cells f))), (0, .box 28 (avs (Home.cells h)))] 3 ?_
 refine AWp.scope 0 rfl ?_
 refine AWp.hz [.run 1] 41 [(2, .ptr 0 0), (3, .ptr 1 0), (4, .ptr 2 0), (6, .ptr 3 0)] [(3, .box 51 [vs (⟨#[]⟩), vi 0, vi 0, vi 0, .rv (.v (.slice none 0 0)), vb false, vb false]), (2, .box 51 [vs (⟨#[]⟩), vi 0, vi 0, vi 0, .rv (.v (.slice none 0 0)), vb false, vb false]), (1, .box 64 (avs (FieldV.cells f))), (0, .box 28 (avs (Home.cells h)))] 4 ?_
 refine AWp.hz [.run 1] 41 [(2, .ptr 0 0), (3, .ptr 1 0), (4, .ptr 2 0), (6, .ptr 3 0), (7, vb false)] [(3, .box 51 [vs (⟨#[]⟩), vi 0, vi 0, vi 0, .rv (.v (.slice none 0 0)), vb false, vb false]), (2, .box 51 [vs (⟨#[]⟩), vi 0, vi 0, vi 0, .rv (.v (.slice none 0 0)), vb false, vb false]), (1, .box 64 (avs (FieldV.cells f))), (0, .box 28 (avs (Home.cells h)))] 4 ?_
 refine AWp.seq ?_
 refine AWp.hzl [.run 2, .len Cluster.cells h.clusters 4, .run 1] 41 [(3, .ptr 1 0), (4, .ptr 2 0), (6, .ptr 3 0), (7, vb false), (13, .rv (.sl 4 (h.clusters.map Cluster.cells))), (14, vi ((h.clusters.length : Nat) : Int)), (15, vi 0)] [(3, .box 51 [vs (⟨#[]⟩), vi 0, vi 0, vi 0, .rv (.v (.slice none 0 0)), vb false, vb false]), (2, .box 51 [vs (⟨#[]⟩), vi 0, vi 0, vi 0, .rv (.v (.slice none 0 0)), vb false, vb false]), (1, .box 64 (avs (FieldV.cells f)))] 4 (fun hl => ?_)
 obtain ⟨hn1, -⟩ := hl
 refine AWp.block ?_
 refine AWp.loop (ι := Nat) (fun k1_ => Z 41 [(3, .ptr 1 0), (4, .ptr 2 0), (6, .ptr 3 0), (7, vb false), (13, .rv (.sl 4 (h.clusters.map Cluster.cells))), (14, vi ((h.clusters.length : Nat) : Int)), (15, vi ((k1_ : Nat) : Int))] [(3, .box 51 [vs (⟨#[]⟩), vi 0, vi 0, vi 0, .rv (.v (.slice none 0 0)), vb false, vb false]), (2, .box 51 [vs (⟨#[]⟩), vi 0, vi 0, vi 0, .rv (.v (.slice none 0 0)), vb false, vb false]), (1, .box 64 (avs (FieldV.cells f)))] 4) (fun k1_ => k1_ ≤ h.clusters.length ∧ vattrM_L1 h f = scanN (vattrM_B1 h f) k1_ (h.clusters.length - k1_)) (fun k1_ => h.clusters.length - k1_) 0 leZ ⟨Nat.zero_le _, rfl⟩ ?_
 intro k1_ ⟨hk1_, hs1_⟩
 refine AWp.hz [.run 1] 41 [(3, .ptr 1 0), (4, .ptr 2 0), (6, .ptr 3 0), (7, vb false), (13, .rv (.sl 4 (h.clusters.map Cluster.cells))), (14, vi ((h.clusters.length : Nat) : Int)), (15, vi ((k1_ : Nat) : Int)), (16, vb (decide (((k1_ : Nat) : Int) < ((h.clusters.length : Nat) : Int))))] [(3, .box 51 [vs (⟨#[]⟩), vi 0, vi 0, vi 0, .rv (.v (.slice none 0 0)), vb false, vb false]), (2, .box 51 [vs (⟨#[]⟩), vi 0, vi 0, vi 0, .rv (.v (.slice none 0 0)), vb false, vb false]), (1, .box 64 (avs (FieldV.cells f)))] 4 ?_
 refine AWp.seq ?_
 refine AWp.cnd (decide (((k1_ : Nat) : Int) < ((h.clusters.length : Nat) : Int))) (fun h2 => ?_) (fun h2 => ?_)
 ·
  have h2' := of_decide_eq_true h2
  refine AWp.skip ?_
  refine AWp.seq ?_
  refine AWp.block ?_
  obtain ⟨e1_, he1_⟩ := getEx (l := h.clusters) (j := k1_) (by omega)
  refine AWp.hz [.idx Cluster.cells h.clusters 4 k1_ e1_ he1_, .run 3] 41 [(3, .ptr 1 0), (4, .ptr 2 0), (6, .ptr 3 0), (7, vb false), (9, .ptr 4 0), (13, .rv (.sl 4 (h.clusters.map Cluster.cells))), (14, vi ((h.clusters.length : Nat) : Int)), (15, vi ((k1_ : Nat) : Int))] [(4, .box 58 (avs (Cluster.cells e1_))), (3, .box 51 [vs (⟨#[]⟩), vi 0, vi 0, vi 0, .rv (.v (.slice none 0 0)), vb false, vb false]), (2, .box 51 [vs (⟨#[]⟩), vi 0, vi 0, vi 0, .rv (.v (.slice none 0 0)), vb false, vb false]), (1, .box 64 (avs (FieldV.cells f)))] 5 ?_
  refine AWp.seq ?_
  refine AWp.hz [.run 5] 41 [(3, .ptr 1 0), (4, .ptr 2 0), (6, .ptr 3 0), (7, vb false), (9, .ptr 4 0), (13, .rv (.sl 4 (h.clusters.map Cluster.cells))), (14, vi ((h.clusters.length : Nat) : Int)), (15, vi ((k1_ : Nat) : Int)), (23, vb (!beqS e1_.name f.cluster))] [(4, .box 58 (avs (Cluster.cells e1_))), (3, .box 51 [vs (⟨#[]⟩), vi 0, vi 0, vi 0, .rv (.v (.slice none 0 0)), vb false, vb false]), (2, .box 51 [vs (⟨#[]⟩), vi 0, vi 0, vi 0, .rv (.v (.slice none 0 0)), vb false, vb false]), (1, .box 64 (avs (FieldV.cells f)))] 5 ?_
  refine AWp.cnd (!beqS e1_.name f.cluster) (fun h3 => ?_) (fun h3 => ?_)
  ·
   refine AWp.exit ?_
   refine AWp.he [.cast (vi (IntKind.i64.wrap (((k1_ : Nat) : Int) + 1))) (vi ((k1_ + 1 : Nat) : Int)) (congrArg vi (wrap_nat (by omega))), .run 1] 41 [(3, .ptr 1 0), (4, .ptr 2 0), (6, .ptr 3 0), (7, vb false), (13, .rv (.sl 4 (h.clusters.map Cluster.cells))), (14, vi ((h.clusters.length : Nat) : Int)), (15, vi ((k1_ + 1 : Nat) : Int))] [(3, .box 51 [vs (⟨#[]⟩), vi 0, vi 0, vi 0, .rv (.v (.slice none 0 0)), vb false, vb false]), (2, .box 51 [vs (⟨#[]⟩), vi 0, vi 0, vi 0, .rv (.v (.slice none 0 0)), vb false, vb false]), (1, .box 64 (avs (FieldV.cells f)))] 5 ?_
   exact ⟨k1_ + 1, ⟨by omega, scanN_none hs1_ (by omega) (by unfold vattrM_B1; (try simp only [he1_]); (try rw [h2]); (try rw [h3]); first | done | kernel_rfl)⟩, by omega, leG⟩
  ·
   refine AWp.skip ?_
   refine AWp.seq ?_
   refine AWp.hzl [.run 2, .len Attr.cells e1_.attrs 7, .run 1] 41 [(3, .ptr 1 0), (4, .ptr 2 0), (6, .ptr 3 0), (7, vb false), (25, .rv (.sl 7 (e1_.attrs.map Attr.cells))), (26, vi ((e1_.attrs.length : Nat) : Int)), (27, vi 0)] [(3, .box 51 [vs (⟨#[]⟩), vi 0, vi 0, vi 0, .rv (.v (.slice none 0 0)), vb false, vb false]), (2, .box 51 [vs (⟨#[]⟩), vi 0, vi 0, vi 0, .rv (.v (.slice none 0 0)), vb false, vb false]), (1, .box 64 (avs (FieldV.cells f)))] 5 (fun hl => ?_)
   obtain ⟨hn4, -⟩ := hl
   refine AWp.block ?_
   refine AWp.loop (ι := Nat) (fun k2_ => Z 41 [(3, .ptr 1 0), (4, .ptr 2 0), (6, .ptr 3 0), (7, vb false), (25, .rv (.sl 7 (e1_.attrs.map Attr.cells))), (26, vi ((e1_.attrs.length : Nat) : Int)), (27, vi ((k2_ : Nat) : Int))] [(3, .box 51 [vs (⟨#[]⟩), vi 0, vi 0, vi 0, .rv (.v (.slice none 0 0)), vb false, vb false]), (2, .box 51 [vs (⟨#[]⟩), vi 0, vi 0, vi 0, .rv (.v (.slice none 0 0)), vb false, vb false]), (1, .box 64 (avs (FieldV.cells f)))] 5) (fun k2_ => k2_ ≤ e1_.attrs.length ∧ vattrM_L2 h f e1_ = scanN (vattrM_B2 h f e1_) k2_ (e1_.attrs.length - k2_)) (fun k2_ => e1_.attrs.length - k2_) 0 leZ ⟨Nat.zero_le _, rfl⟩ ?_
   intro k2_ ⟨hk2_, hs2_⟩
   refine AWp.hz [.run 1] 41 [(3, .ptr 1 0), (4, .ptr 2 0), (6, .ptr 3 0), (7, vb false), (25, .rv (.sl 7 (e1_.attrs.map Attr.cells))), (26, vi ((e1_.attrs.length : Nat) : Int)), (27, vi ((k2_ : Nat) : Int)), (28, vb (decide (((k2_ : Nat) : Int) < ((e1_.attrs.length : Nat) : Int))))] [(3, .box 51 [vs (⟨#[]⟩), vi 0, vi 0, vi 0, .rv (.v (.slice none 0 0)), vb false, vb false]), (2, .box 51 [vs (⟨#[]⟩), vi 0, vi 0, vi 0, .rv (.v (.slice none 0 0)), vb false, vb false]), (1, .box 64 (avs (FieldV.cells f)))] 5 ?_
   refine AWp.seq ?_
   refine AWp.cnd (decide (((k2_ : Nat) : Int) < ((e1_.attrs.length : Nat) : Int))) (fun h5 => ?_) (fun h5 => ?_)
   ·
    have h5' := of_decide_eq_true h5
    refine AWp.skip ?_
    refine AWp.seq ?_
    refine AWp.block ?_
    obtain ⟨e2_, he2_⟩ := getEx (l := e1_.attrs) (j := k2_) (by omega)
    refine AWp.hz [.idx Attr.cells e1_.attrs 7 k2_ e2_ he2_, .run 3] 41 [(3, .ptr 1 0), (4, .ptr 2 0), (6, .ptr 3 0), (7, vb false), (11, .ptr 5 0), (25, .rv (.sl 7 (e1_.attrs.map Attr.cells))), (26, vi ((e1_.attrs.length : Nat) : Int)), (27, vi ((k2_ : Nat) : Int))] [(5, .box 51 (avs (Attr.cells e2_))), (3, .box 51 [vs (⟨#[]⟩), vi 0, vi 0, vi 0, .rv (.v (.slice none 0 0)), vb false, vb false]), (2, .box 51 [vs (⟨#[]⟩), vi 0, vi 0, vi 0, .rv (.v (.slice none 0 0)), vb false, vb false]), (1, .box 64 (avs (FieldV.cells f)))] 6 ?_
    refine AWp.hz [.run 5] 41 [(3, .ptr 1 0), (4, .ptr 2 0), (6, .ptr 3 0), (7, vb false), (11, .ptr 5 0), (25, .rv (.sl 7 (e1_.attrs.map Attr.cells))), (26, vi ((e1_.attrs.length : Nat) : Int)), (27, vi ((k2_ : Nat) : Int)), (35, vb (beqS e2_.name f.attr))] [(5, .box 51 (avs (Attr.cells e2_))), (3, .box 51 [vs (⟨#[]⟩), vi 0, vi 0, vi 0, .rv (.v (.slice none 0 0)), vb false, vb false]), (2, .box 51 [vs (⟨#[]⟩), vi 0, vi 0, vi 0, .rv (.v (.slice none 0 0)), vb false, vb false]), (1, .box 64 (avs (FieldV.cells f)))] 6 ?_
    refine AWp.cnd (beqS e2_.name f.attr) (fun h6 => ?_) (fun h6 => ?_)
    ·
     refine AWp.hz [.run 3] 41 [(4, .ptr 2 0), (6, .ptr 3 0), (7, vb true)] [(3, .box 51 (avs (Attr.cells e2_))), (2, .box 51 [vs (⟨#[]⟩), vi 0, vi 0, vi 0, .rv (.v (.slice none 0 0)), vb false, vb false])] 6 ?_
     refine AWp.goto ⟨rfl, AWp.seq (AWp.skip ?_)⟩
     refine AWp.hz [.run 4] 41 [(4, .ptr 2 0), (5, vb true)] [(2, .box 51 (avs (Attr.cells e2_)))] 6 ?_
     refine AWp.ret ?_
     have hL2_ : vattrM_L2 h f e1_ = some (e2_, true) := scanN_some hs2_ (by omega) (by unfold vattrM_B2; (try simp only [he1_]); (try simp only [he2_]); (try rw [h5]); (try rw [h6]); first | done | kernel_rfl)
     have hL1_ : vattrM_L1 h f = some (e2_, true) := scanN_some hs1_ (by omega) (by unfold vattrM_B1; (try simp only [he1_]); (try simp only [he2_]); (try rw [h2]); (try rw [h3]); (try rw [h5]); (try rw [h6]); (try rw [hL2_]); first | done | kernel_rfl)
     exact leafR (r := .tuple [.agg (avs (Attr.cells e2_)), vb true]) (by show (.tuple [.agg (avs (Attr.cells e2_)), vb true] : AV) = .tuple [.agg (avs (Attr.cells ((vattrM h f).1))), vb ((vattrM h f).2)]; unfold vattrM; (try rw [hL1_]); first | done | kernel_rfl)
    ·
     refine AWp.skip ?_
     refine AWp.he [.cast (vi (IntKind.i64.wrap (((k2_ : Nat) : Int) + 1))) (vi ((k2_ + 1 : Nat) : Int)) (congrArg vi (wrap_nat (by omega))), .run 1] 41 [(3, .ptr 1 0), (4, .ptr 2 0), (6, .ptr 3 0), (7, vb false), (25, .rv (.sl 7 (e1_.attrs.map Attr.cells))), (26, vi ((e1_.attrs.length : Nat) : Int)), (27, vi ((k2_ + 1 : Nat) : Int))] [(3, .box 51 [vs (⟨#[]⟩), vi 0, vi 0, vi 0, .rv (.v (.slice none 0 0)), vb false, vb false]), (2, .box 51 [vs (⟨#[]⟩), vi 0, vi 0, vi 0, .rv (.v (.slice none 0 0)), vb false, vb false]), (1, .box 64 (avs (FieldV.cells f)))] 6 ?_
     exact ⟨k2_ + 1, ⟨by omega, scanN_none hs2_ (by omega) (by unfold vattrM_B2; (try simp only [he1_]); (try simp only [he2_]); (try rw [h5]); (try rw [h6]); first | done | kernel_rfl)⟩, by omega, leG⟩
   ·
    have h5' := of_decide_eq_false h5
    refine AWp.exit ?_
    have hL2_ : vattrM_L2 h f e1_ = none := scanN_end hs2_ (by omega)
    refine AWp.goto ⟨rfl, AWp.seq (AWp.skip ?_)⟩
    refine AWp.hz [.run 4] 41 [(4, .ptr 2 0), (5, vb false)] [(2, .box 51 [vs (⟨#[]⟩), vi 0, vi 0, vi 0, .rv (.v (.slice none 0 0)), vb false, vb false])] 5 ?_
    refine AWp.le (Le.nilsB (s' := Z 41 [(4, .ptr 2 0), (5, vb false)] [(2, .box 51 [vs (⟨#[]⟩), vi 0, vi 0, vi 0, .rv (.sl 1 (([]).map strC)), vb false, vb false])] 5) 2 [none, none, none, none, some 1, none, none] (by kernel_rfl)) ?_
    refine AWp.ret ?_
    have hL1_ : vattrM_L1 h f = some ((⟨⟨#[]⟩, 0, 0, 0, [], false, false⟩ : Attr), false) := scanN_some hs1_ (by omega) (by unfold vattrM_B1; (try simp only [he1_]); (try rw [h2]); (try rw [h3]); (try rw [hL2_]); first | done | kernel_rfl)
    exact leafR (r := .tuple [.agg [vs (⟨#[]⟩), vi 0, vi 0, vi 0, .rv (.sl 1 (([]).map strC)), vb false, vb false], vb false]) (by show (.tuple [.agg [vs (⟨#[]⟩), vi 0, vi 0, vi 0, .rv (.sl 1 (([]).map strC)), vb false, vb false], vb false] : AV) = .tuple [.agg (avs (Attr.cells ((vattrM h f).1))), vb ((vattrM h f).2)]; unfold vattrM; (try rw [hL1_]); first | done | kernel_rfl)
 ·
  have h2' := of_decide_eq_false h2
  refine AWp.exit ?_
  have hL1_ : vattrM_L1 h f = none := scanN_end hs1_ (by omega)
  refine AWp.seq ?_
  refine AWp.label ?_
  refine AWp.hz [.run 4] 41 [(4, .ptr 2 0), (5, vb false)] [(2, .box 51 [vs (⟨#[]⟩), vi 0, vi 0, vi 0, .rv (.v (.slice none 0 0)), vb false, vb false])] 4 ?_
  refine AWp.le (Le.nilsB (s' := Z 41 [(4, .ptr 2 0), (5, vb false)] [(2, .box 51 [vs (⟨#[]⟩), vi 0, vi 0, vi 0, .rv (.sl 1 (([]).map strC)), vb false, vb false])] 4) 2 [none, none, none, none, some 1, none, none] (by kernel_rfl)) ?_
  refine AWp.ret ?_
  exact leafR (r := .tuple [.agg [vs (⟨#[]⟩), vi 0, vi 0, vi 0, .rv (.sl 1 (([]).map strC)), vb false, vb false], vb false]) (by show (.tuple [.agg [vs (⟨#[]⟩), vi 0, vi 0, vi 0, .rv (.sl 1 (([]).map strC)), vb false, vb false], vb false] : AV) = .tuple [.agg (avs (Attr.cells ((vattrM h f).1))), vb ((vattrM h f).2)]; unfold vattrM; (try rw [hL1_]); first | done | kernel_rfl)
def rvattrM_B1 (h : Home) (x y : ByteArray) (k1_ : Nat) : Option (Attr × Bool) :=
  (match (h.clusters)[k1_]? with | some e1_ => (bif beqS e1_.name x then some (((rattrM e1_ y).1), ((rattrM e1_ y).2)) else none) | none => none)
def rvattrM_L1 (h : Home) (x y : ByteArray) : Option (Attr × Bool) := scanN (rvattrM_B1 h x y) 0 h.clusters.length
def rvattrM (h : Home) (x y : ByteArray) : Attr × Bool :=
  ((rvattrM_L1 h x y).getD ((⟨⟨#[]⟩, 0, 0, 0, [], false, false⟩ : Attr), false))
theorem rvattrM_ok (h : Home) (x y : ByteArray) :
 ACalls Try.prog G_ 23 [.agg (avs (Home.cells h)), vs x, vs y] [] 0 (fun r τ => r = .tuple [.agg (avs (Attr.cells ((rvattrM h x y).1))), vb ((rvattrM h x y).2)] ∧ τ = []) := by
 refine ACalls.body Try.func23 rfl 34 [(0, .agg (avs (Home.cells h))), (1, vs x), (2, vs y)] ?_
 refine AWp.hz [.run 3] 34 [(1, vs x), (2, vs y), (3, .ptr 0 0), (6, .ptr 1 0)] [(1, .box 51 [vs (⟨#[]⟩), vi 0, vi 0, vi 0, .rv (.v (.slice none 0 0)), vb false, vb false]), (0, .box 28 (avs (Home.cells h)))] 2 ?_
 refine AWp.seq ?_
 refine AWp.hz [.run 1] 34 [(1, vs x), (2, vs y), (3, .ptr 0 0), (6, .ptr 1 0), (8, vi 0)] [(1, .box 51 [vs (⟨#[]⟩), vi 0, vi 0, vi 0, .rv (.v (.slice none 0 0)), vb false, vb false]), (0, .box 28 (avs (Home.cells h)))] 2 ?_
 refine AWp.block ?_
 refine AWp.loop (ι := Nat) (fun k1_ => Z 34 [(1, vs x), (2, vs y), (3, .ptr 0 0), (6, .ptr 1 0), (8, vi ((k1_ : Nat) : Int))] [(1, .box 51 [vs (⟨#[]⟩), vi 0, vi 0, vi 0, .rv (.v (.slice none 0 0)), vb false, vb false]), (0, .box 28 (avs (Home.cells h)))] 2) (fun k1_ => k1_ ≤ h.clusters.length ∧ rvattrM_L1 h x y = scanN (rvattrM_B1 h x y) k1_ (h.clusters.length - k1_)) (fun k1_ => h.clusters.length - k1_) 0 leZ ⟨Nat.zero_le _, rfl⟩ ?_
 intro k1_ ⟨hk1_, hs1_⟩
 refine AWp.seq ?_
 refine AWp.hzl [.run 3, .len Cluster.cells h.clusters 4, .run 1] 34 [(1, vs x), (2, vs y), (3, .ptr 0 0), (6, .ptr 1 0), (8, vi ((k1_ : Nat) : Int)), (13, vb (decide (((k1_ : Nat) : Int) < ((h.clusters.length : Nat) : Int))))] [(1, .box 51 [vs (⟨#[]⟩), vi 0, vi 0, vi 0, .rv (.v (.slice none 0 0)), vb false, vb false]), (0, .box 28 (avs (Home.cells h)))] 2 (fun hl => ?_)
 obtain ⟨hn1, -⟩ := hl
 refine AWp.cnd (decide (((k1_ : Nat) : Int) < ((h.clusters.length : Nat) : Int))) (fun h2 => ?_) (fun h2 => ?_)
 ·
  have h2' := of_decide_eq_true h2
  refine AWp.skip ?_
  refine AWp.seq ?_
  refine AWp.block ?_
  obtain ⟨e1_, he1_⟩ := getEx (l := h.clusters) (j := k1_) (by omega)
  refine AWp.hz [.run 3, .idx Cluster.cells h.clusters 4 k1_ e1_ he1_, .run 4] 34 [(1, vs x), (2, vs y), (3, .ptr 0 0), (6, .ptr 1 0), (8, vi ((k1_ : Nat) : Int)), (23, vb (beqS e1_.name x))] [(1, .box 51 [vs (⟨#[]⟩), vi 0, vi 0, vi 0, .rv (.v (.slice none 0 0)), vb false, vb false]), (0, .box 28 (avs (Home.cells h)))] 2 ?_
  refine AWp.cnd (beqS e1_.name x) (fun h3 => ?_) (fun h3 => ?_)
  ·
   refine AWp.hz [.run 3, .idx Cluster.cells h.clusters 4 k1_ e1_ he1_, .run 2, .call 50 [.agg (avs (Cluster.cells e1_)), vs y] (.tuple [.agg (avs (Attr.cells ((rattrM e1_ y).1))), vb ((rattrM e1_ y).2)]) [] 0 (rattrM_ok e1_ y), .run 4] 34 [(6, .ptr 1 0), (7, vb ((rattrM e1_ y).2))] [(1, .box 51 (avs (Attr.cells ((rattrM e1_ y).1))))] 2 ?_
   refine AWp.ret ?_
   have hL1_ : rvattrM_L1 h x y = some (((rattrM e1_ y).1), ((rattrM e1_ y).2)) := scanN_some hs1_ (by omega) (by unfold rvattrM_B1; (try simp only [he1_]); (try rw [h2]); (try rw [h3]); first | done | kernel_rfl)
   exact leafR (r := .tuple [.agg (avs (Attr.cells ((rattrM e1_ y).1))), vb ((rattrM e1_ y).2)]) (by show (.tuple [.agg (avs (Attr.cells ((rattrM e1_ y).1))), vb ((rattrM e1_ y).2)] : AV) = .tuple [.agg (avs (Attr.cells ((rvattrM h x y).1))), vb ((rvattrM h x y).2)]; unfold rvattrM; (try rw [hL1_]); first | done | kernel_rfl)
  ·
   refine AWp.skip ?_
   refine AWp.he [.run 1, .cast (vi (IntKind.i64.wrap (((k1_ : Nat) : Int) + 1))) (vi ((k1_ + 1 : Nat) : Int)) (congrArg vi (wrap_nat (by omega))), .run 1] 34 [(1, vs x), (2, vs y), (3, .ptr 0 0), (6, .ptr 1 0), (8, vi ((k1_ + 1 : Nat) : Int))] [(1, .box 51 [vs (⟨#[]⟩), vi 0, vi 0, vi 0, .rv (.v (.slice none 0 0)), vb false, vb false]), (0, .box 28 (avs (Home.cells h)))] 2 ?_
   exact ⟨k1_ + 1, ⟨by omega, scanN_none hs1_ (by omega) (by unfold rvattrM_B1; (try simp only [he1_]); (try rw [h2]); (try rw [h3]); first | done | kernel_rfl)⟩, by omega, leG⟩
 ·
  have h2' := of_decide_eq_false h2
  refine AWp.exit ?_
  have hL1_ : rvattrM_L1 h x y = none := scanN_end hs1_ (by omega)
  refine AWp.hz [.run 3] 34 [(6, .ptr 1 0), (7, vb false)] [(1, .box 51 [vs (⟨#[]⟩), vi 0, vi 0, vi 0, .rv (.v (.slice none 0 0)), vb false, vb false])] 2 ?_
  refine AWp.le (Le.nilsB (s' := Z 34 [(6, .ptr 1 0), (7, vb false)] [(1, .box 51 [vs (⟨#[]⟩), vi 0, vi 0, vi 0, .rv (.sl 1 (([]).map strC)), vb false, vb false])] 2) 1 [none, none, none, none, some 1, none, none] (by kernel_rfl)) ?_
  refine AWp.ret ?_
  exact leafR (r := .tuple [.agg [vs (⟨#[]⟩), vi 0, vi 0, vi 0, .rv (.sl 1 (([]).map strC)), vb false, vb false], vb false]) (by show (.tuple [.agg [vs (⟨#[]⟩), vi 0, vi 0, vi 0, .rv (.sl 1 (([]).map strC)), vb false, vb false], vb false] : AV) = .tuple [.agg (avs (Attr.cells ((rvattrM h x y).1))), vb ((rvattrM h x y).2)]; unfold rvattrM; (try rw [hL1_]); first | done | kernel_rfl)
def iIndexM_B1 (l : List Int) (n : Int) (k1_ : Nat) : Option Int :=
  (match (l)[k1_]? with | some e1_ => (bif (n == e1_) then some ((k1_ : Nat) : Int) else none) | none => none)
def iIndexM_L1 (l : List Int) (n : Int) : Option Int := scanN (iIndexM_B1 l n) 0 l.length
def iIndexM (l : List Int) (n : Int) : Int :=
  (iIndexM_L1 l n).getD (-1)
theorem iIndexM_ok (l : List Int) (n : Int) :
 ACalls Try.prog G_ 55 [.rv (.sl 1 (l.map intC)), vi n] [] 0 (fun r τ => r = vi (iIndexM l n) ∧ τ = []) := by
 refine ACalls.body Try.func55 rfl 19 [(0, .rv (.sl 1 (l.map intC))), (1, vi n)] ?_
 refine AWp.hz [.run 1] 19 [(0, .rv (.sl 1 (l.map intC))), (1, vi n)] [] 0 ?_
 refine AWp.seq ?_
 refine AWp.hzl [.run 1, .len intC l 1, .run 1] 19 [(0, .rv (.sl 1 (l.map intC))), (1, vi n), (7, vi ((l.length : Nat) : Int)), (8, vi 0)] [] 0 (fun hl => ?_)
 obtain ⟨hn1, -⟩ := hl
 refine AWp.block ?_
 refine AWp.loop (ι := Nat) (fun k1_ => Z 19 [(0, .rv (.sl 1 (l.map intC))), (1, vi n), (7, vi ((l.length : Nat) : Int)), (8, vi ((k1_ : Nat) : Int))] [] 0) (fun k1_ => k1_ ≤ l.length ∧ iIndexM_L1 l n = scanN (iIndexM_B1 l n) k1_ (l.length - k1_)) (fun k1_ => l.length - k1_) 0 leZ ⟨Nat.zero_le _, rfl⟩ ?_
 intro k1_ ⟨hk1_, hs1_⟩
 refine AWp.hz [.run 1] 19 [(0, .rv (.sl 1 (l.map intC))), (1, vi n), (7, vi ((l.length : Nat) : Int)), (8, vi ((k1_ : Nat) : Int)), (9, vb (decide (((k1_ : Nat) : Int) < ((l.length : Nat) : Int))))] [] 0 ?_
 refine AWp.seq ?_
 refine AWp.cnd (decide (((k1_ : Nat) : Int) < ((l.length : Nat) : Int))) (fun h2 => ?_) (fun h2 => ?_)
 ·
  have h2' := of_decide_eq_true h2
  refine AWp.skip ?_
  refine AWp.seq ?_
  refine AWp.block ?_
  refine AWp.hz [.run 2] 19 [(0, .rv (.sl 1 (l.map intC))), (1, vi n), (5, vi ((k1_ : Nat) : Int)), (7, vi ((l.length : Nat) : Int)), (8, vi ((k1_ : Nat) : Int))] [] 0 ?_
  obtain ⟨e1_, he1_⟩ := getEx (l := l) (j := k1_) (by omega)
  refine AWp.hz [.run 3, .idx intC l 1 k1_ e1_ he1_, .run 2] 19 [(0, .rv (.sl 1 (l.map intC))), (1, vi n), (5, vi ((k1_ : Nat) : Int)), (7, vi ((l.length : Nat) : Int)), (8, vi ((k1_ : Nat) : Int)), (16, vb (n == e1_))] [] 0 ?_
  refine AWp.cnd ((n == e1_)) (fun h3 => ?_) (fun h3 => ?_)
  ·
   refine AWp.hz [.run 2] 19 [(4, vi ((k1_ : Nat) : Int))] [] 0 ?_
   refine AWp.ret ?_
   have hL1_ : iIndexM_L1 l n = some ((k1_ : Nat) : Int) := scanN_some hs1_ (by omega) (by unfold iIndexM_B1; (try simp only [he1_]); (try rw [h2]); (try rw [h3]); first | done | kernel_rfl)
   exact leafR (r := vi ((k1_ : Nat) : Int)) (by unfold iIndexM; (try rw [hL1_]); first | done | kernel_rfl)
  ·
   refine AWp.skip ?_
   refine AWp.he [.cast (vi (IntKind.i64.wrap (((k1_ : Nat) : Int) + 1))) (vi ((k1_ + 1 : Nat) : Int)) (congrArg vi (wrap_nat (by omega))), .run 1] 19 [(0, .rv (.sl 1 (l.map intC))), (1, vi n), (7, vi ((l.length : Nat) : Int)), (8, vi ((k1_ + 1 : Nat) : Int))] [] 0 ?_
   exact ⟨k1_ + 1, ⟨by omega, scanN_none hs1_ (by omega) (by unfold iIndexM_B1; (try simp only [he1_]); (try rw [h2]); (try rw [h3]); first | done | kernel_rfl)⟩, by omega, leG⟩
 ·
  have h2' := of_decide_eq_false h2
  refine AWp.exit ?_
  have hL1_ : iIndexM_L1 l n = none := scanN_end hs1_ (by omega)
  refine AWp.hz [.run 1] 19 [(4, vi (-1))] [] 0 ?_
  refine AWp.ret ?_
  exact leafR (r := vi (-1)) (by unfold iIndexM; (try rw [hL1_]); first | done | kernel_rfl)
def rindexM_B1 (l : List Int) (n : Int) (k1_ : Nat) : Option Int :=
  (match (l)[k1_]? with | some e1_ => (bif (e1_ == n) then some ((k1_ : Nat) : Int) else none) | none => none)
def rindexM_L1 (l : List Int) (n : Int) : Option Int := scanN (rindexM_B1 l n) 0 l.length
def rindexM (l : List Int) (n : Int) : Int :=
  (rindexM_L1 l n).getD (-1)
theorem rindexM_ok (l : List Int) (n : Int) :
 ACalls Try.prog G_ 51 [.rv (.sl 1 (l.map intC)), vi n] [] 0 (fun r τ => r = vi (rindexM l n) ∧ τ = []) := by
 refine ACalls.body Try.func51 rfl 19 [(0, .rv (.sl 1 (l.map intC))), (1, vi n)] ?_
 refine AWp.hz [.run 1] 19 [(0, .rv (.sl 1 (l.map intC))), (1, vi n)] [] 0 ?_
 refine AWp.seq ?_
 refine AWp.hz [.run 1] 19 [(0, .rv (.sl 1 (l.map intC))), (1, vi n), (5, vi 0)] [] 0 ?_
 refine AWp.block ?_
 refine AWp.loop (ι := Nat) (fun k1_ => Z 19 [(0, .rv (.sl 1 (l.map intC))), (1, vi n), (5, vi ((k1_ : Nat) : Int))] [] 0) (fun k1_ => k1_ ≤ l.length ∧ rindexM_L1 l n = scanN (rindexM_B1 l n) k1_ (l.length - k1_)) (fun k1_ => l.length - k1_) 0 leZ ⟨Nat.zero_le _, rfl⟩ ?_
 intro k1_ ⟨hk1_, hs1_⟩
 refine AWp.seq ?_
 refine AWp.hzl [.run 2, .len intC l 1, .run 1] 19 [(0, .rv (.sl 1 (l.map intC))), (1, vi n), (5, vi ((k1_ : Nat) : Int)), (9, vb (decide (((k1_ : Nat) : Int) < ((l.length : Nat) : Int))))] [] 0 (fun hl => ?_)
 obtain ⟨hn1, -⟩ := hl
 refine AWp.cnd (decide (((k1_ : Nat) : Int) < ((l.length : Nat) : Int))) (fun h2 => ?_) (fun h2 => ?_)
 ·
  have h2' := of_decide_eq_true h2
  refine AWp.skip ?_
  refine AWp.seq ?_
  refine AWp.block ?_
  obtain ⟨e1_, he1_⟩ := getEx (l := l) (j := k1_) (by omega)
  refine AWp.hz [.run 2, .idx intC l 1 k1_ e1_ he1_, .run 3] 19 [(0, .rv (.sl 1 (l.map intC))), (1, vi n), (5, vi ((k1_ : Nat) : Int)), (17, vb (e1_ == n))] [] 0 ?_
  refine AWp.cnd ((e1_ == n)) (fun h3 => ?_) (fun h3 => ?_)
  ·
   refine AWp.hz [.run 2] 19 [(4, vi ((k1_ : Nat) : Int))] [] 0 ?_
   refine AWp.ret ?_
   have hL1_ : rindexM_L1 l n = some ((k1_ : Nat) : Int) := scanN_some hs1_ (by omega) (by unfold rindexM_B1; (try simp only [he1_]); (try rw [h2]); (try rw [h3]); first | done | kernel_rfl)
   exact leafR (r := vi ((k1_ : Nat) : Int)) (by unfold rindexM; (try rw [hL1_]); first | done | kernel_rfl)
  ·
   refine AWp.skip ?_
   refine AWp.he [.run 1, .cast (vi (IntKind.i64.wrap (((k1_ : Nat) : Int) + 1))) (vi ((k1_ + 1 : Nat) : Int)) (congrArg vi (wrap_nat (by omega))), .run 1] 19 [(0, .rv (.sl 1 (l.map intC))), (1, vi n), (5, vi ((k1_ + 1 : Nat) : Int))] [] 0 ?_
   exact ⟨k1_ + 1, ⟨by omega, scanN_none hs1_ (by omega) (by unfold rindexM_B1; (try simp only [he1_]); (try rw [h2]); (try rw [h3]); first | done | kernel_rfl)⟩, by omega, leG⟩
 ·
  have h2' := of_decide_eq_false h2
  refine AWp.exit ?_
  have hL1_ : rindexM_L1 l n = none := scanN_end hs1_ (by omega)
  refine AWp.hz [.run 1] 19 [(4, vi (-1))] [] 0 ?_
  refine AWp.ret ?_
  exact leafR (r := vi (-1)) (by unfold rindexM; (try rw [hL1_]); first | done | kernel_rfl)
def mappedM_B1 (l : List Int) (n : Int) (k1_ : Nat) : Option Bool :=
  (match (l)[k1_]? with | some e1_ => (bif ((decide (e1_ < 0) || decide (e1_ > 65535)) || decide (iIndexM l e1_ < ((k1_ : Nat) : Int))) then some false else none) | none => none)
def mappedM_L1 (l : List Int) (n : Int) : Option Bool := scanN (mappedM_B1 l n) 0 l.length
def mappedM (l : List Int) (n : Int) : Bool :=
  (bif (((l.length : Nat) : Int) != n) then false else (mappedM_L1 l n).getD true)
theorem mappedM_ok (l : List Int) (n : Int) :
 ACalls Try.prog G_ 68 [.rv (.sl 1 (l.map intC)), vi n] [] 0 (fun r τ => r = vb (mappedM l n) ∧ τ = []) := by
 refine ACalls.body Try.func68 rfl 32 [(0, .rv (.sl 1 (l.map intC))), (1, vi n)] ?_
 refine AWp.hz [.run 1] 32 [(0, .rv (.sl 1 (l.map intC))), (1, vi n)] [] 0 ?_
 refine AWp.seq ?_
 refine AWp.hzl [.run 1, .len intC l 1, .run 2] 32 [(0, .rv (.sl 1 (l.map intC))), (10, vb (((l.length : Nat) : Int) != n))] [] 0 (fun hl => ?_)
 obtain ⟨hn1, -⟩ := hl
 refine AWp.cnd ((((l.length : Nat) : Int) != n)) (fun h2 => ?_) (fun h2 => ?_)
 ·
  have h2' := bne_t h2
  refine AWp.hz [.run 1] 32 [(4, vb false)] [] 0 ?_
  refine AWp.ret ?_
  exact leafR (r := vb false) (by unfold mappedM; (try rw [h2]); first | done | kernel_rfl)
 ·
  have h2' := bne_f h2
  refine AWp.skip ?_
  refine AWp.seq ?_
  refine AWp.hzl [.run 1, .len intC l 1, .run 1] 32 [(0, .rv (.sl 1 (l.map intC))), (11, .rv (.sl 1 (l.map intC))), (12, vi ((l.length : Nat) : Int)), (13, vi 0)] [] 0 (fun hl => ?_)
  obtain ⟨hn3, -⟩ := hl
  refine AWp.block ?_
  refine AWp.loop (ι := Nat) (fun k1_ => Z 32 [(0, .rv (.sl 1 (l.map intC))), (11, .rv (.sl 1 (l.map intC))), (12, vi ((l.length : Nat) : Int)), (13, vi ((k1_ : Nat) : Int))] [] 0) (fun k1_ => k1_ ≤ l.length ∧ mappedM_L1 l n = scanN (mappedM_B1 l n) k1_ (l.length - k1_)) (fun k1_ => l.length - k1_) 0 leZ ⟨Nat.zero_le _, rfl⟩ ?_
  intro k1_ ⟨hk1_, hs1_⟩
  refine AWp.hz [.run 1] 32 [(0, .rv (.sl 1 (l.map intC))), (11, .rv (.sl 1 (l.map intC))), (12, vi ((l.length : Nat) : Int)), (13, vi ((k1_ : Nat) : Int)), (14, vb (decide (((k1_ : Nat) : Int) < ((l.length : Nat) : Int))))] [] 0 ?_
  refine AWp.seq ?_
  refine AWp.cnd (decide (((k1_ : Nat) : Int) < ((l.length : Nat) : Int))) (fun h4 => ?_) (fun h4 => ?_)
  ·
   have h4' := of_decide_eq_true h4
   refine AWp.skip ?_
   refine AWp.seq ?_
   refine AWp.block ?_
   obtain ⟨e1_, he1_⟩ := getEx (l := l) (j := k1_) (by omega)
   refine AWp.hz [.run 1, .idx intC l 1 k1_ e1_ he1_, .run 3] 32 [(0, .rv (.sl 1 (l.map intC))), (5, vi ((k1_ : Nat) : Int)), (6, vi e1_), (11, .rv (.sl 1 (l.map intC))), (12, vi ((l.length : Nat) : Int)), (13, vi ((k1_ : Nat) : Int))] [] 0 ?_
   refine AWp.join (Z 32 [(0, .rv (.sl 1 (l.map intC))), (11, .rv (.sl 1 (l.map intC))), (12, vi ((l.length : Nat) : Int)), (13, vi ((k1_ : Nat) : Int)), (30, vb ((decide (e1_ < 0) || decide (e1_ > 65535)) || decide (iIndexM l e1_ < ((k1_ : Nat) : Int))))] [] 0) ?_ ?_
   ·
    refine AWp.region ?_
    refine AOps.hg [.run 3] (decide (e1_ < 0)) 32 (fun b_ => [(0, .rv (.sl 1 (l.map intC))), (5, vi ((k1_ : Nat) : Int)), (6, vi e1_), (11, .rv (.sl 1 (l.map intC))), (12, vi ((l.length : Nat) : Int)), (13, vi ((k1_ : Nat) : Int)), (20, vb b_)]) [] 0 (fun hg5 => ?_) (fun hg5 => ?_)
    ·
     have hg5' := of_decide_eq_true hg5
     refine AOps.he [.run 10] 32 [(0, .rv (.sl 1 (l.map intC))), (11, .rv (.sl 1 (l.map intC))), (12, vi ((l.length : Nat) : Int)), (13, vi ((k1_ : Nat) : Int)), (30, vb true)] [] 0 ?_
     exact leZ (by rw [hg5]; first | done | kernel_rfl)
    ·
     have hg5' := of_decide_eq_false hg5
     refine AOps.hg [.run 4] (decide (e1_ > 65535)) 32 (fun b_ => [(0, .rv (.sl 1 (l.map intC))), (5, vi ((k1_ : Nat) : Int)), (6, vi e1_), (11, .rv (.sl 1 (l.map intC))), (12, vi ((l.length : Nat) : Int)), (13, vi ((k1_ : Nat) : Int)), (24, vb b_)]) [] 0 (fun hg6 => ?_) (fun hg6 => ?_)
     ·
      have hg6' := of_decide_eq_true hg6
      refine AOps.he [.run 6] 32 [(0, .rv (.sl 1 (l.map intC))), (11, .rv (.sl 1 (l.map intC))), (12, vi ((l.length : Nat) : Int)), (13, vi ((k1_ : Nat) : Int)), (30, vb true)] [] 0 ?_
      exact leZ (by rw [hg5, hg6]; first | done | kernel_rfl)
     ·
      have hg6' := of_decide_eq_false hg6
      refine AOps.he [.run 2, .call 55 [.rv (.sl 1 (l.map intC)), vi e1_] (vi (iIndexM l e1_)) [] 0 (iIndexM_ok l e1_), .run 3] 32 [(0, .rv (.sl 1 (l.map intC))), (11, .rv (.sl 1 (l.map intC))), (12, vi ((l.length : Nat) : Int)), (13, vi ((k1_ : Nat) : Int)), (30, vb (decide (iIndexM l e1_ < ((k1_ : Nat) : Int))))] [] 0 ?_
      exact leZ (by rw [hg5, hg6]; first | done | kernel_rfl)
   ·
    refine AWp.cnd (((decide (e1_ < 0) || decide (e1_ > 65535)) || decide (iIndexM l e1_ < ((k1_ : Nat) : Int)))) (fun h7 => ?_) (fun h7 => ?_)
    ·
     refine AWp.hz [.run 1] 32 [(4, vb false)] [] 0 ?_
     refine AWp.ret ?_
     have hL1_ : mappedM_L1 l n = some false := scanN_some hs1_ (by omega) (by unfold mappedM_B1; (try simp only [he1_]); (try rw [h4]); (try rw [h7]); first | done | kernel_rfl)
     exact leafR (r := vb false) (by unfold mappedM; (try rw [h2]); (try rw [hL1_]); first | done | kernel_rfl)
    ·
     have h7l := or_fl h7
     have h7ll := or_fl h7l
     have h7ll' := of_decide_eq_false h7ll
     have h7lr := or_fr h7l
     have h7lr' := of_decide_eq_false h7lr
     have h7r := or_fr h7
     have h7r' := of_decide_eq_false h7r
     refine AWp.skip ?_
     refine AWp.he [.cast (vi (IntKind.i64.wrap (((k1_ : Nat) : Int) + 1))) (vi ((k1_ + 1 : Nat) : Int)) (congrArg vi (wrap_nat (by omega))), .run 1] 32 [(0, .rv (.sl 1 (l.map intC))), (11, .rv (.sl 1 (l.map intC))), (12, vi ((l.length : Nat) : Int)), (13, vi ((k1_ + 1 : Nat) : Int))] [] 0 ?_
     exact ⟨k1_ + 1, ⟨by omega, scanN_none hs1_ (by omega) (by unfold mappedM_B1; (try simp only [he1_]); (try rw [h4]); (try rw [h7]); first | done | kernel_rfl)⟩, by omega, leG⟩
  ·
   have h4' := of_decide_eq_false h4
   refine AWp.exit ?_
   have hL1_ : mappedM_L1 l n = none := scanN_end hs1_ (by omega)
   refine AWp.hz [.run 1] 32 [(4, vb true)] [] 0 ?_
   refine AWp.ret ?_
   exact leafR (r := vb true) (by unfold mappedM; (try rw [h2]); (try rw [hL1_]); first | done | kernel_rfl)
def formM (f : FieldV) (a : Attr) : Bool :=
  (bif (a.kind == 2) then ((f.scale != 0) && (((f.map.length : Nat) : Int) == 0)) else (bif (a.kind == 3) then (((f.scale == 0) && (f.offset == 0)) && mappedM f.map ((a.enum.length : Nat) : Int)) else (((f.scale == 0) && (f.offset == 0)) && (((f.map.length : Nat) : Int) == 0))))
theorem formM_ok (f : FieldV) (a : Attr) :
 ACalls Try.prog G_ 47 [.agg (avs (FieldV.cells f)), .agg (avs (Attr.cells a))] [] 0 (fun r τ => r = vb (formM f a) ∧ τ = []) := by
 refine ACalls.body Try.func47 rfl 50 [(0, .agg (avs (FieldV.cells f))), (1, .agg (avs (Attr.cells a)))] ?_
 refine AWp.hz [.run 3] 50 [(2, .ptr 0 0), (3, .ptr 1 0)] [(1, .box 51 (avs (Attr.cells a))), (0, .box 64 (avs (FieldV.cells f)))] 2 ?_
 refine AWp.seq ?_
 refine AWp.hz [.run 2] 50 [(2, .ptr 0 0), (3, .ptr 1 0), (6, vi a.kind)] [(1, .box 51 (avs (Attr.cells a))), (0, .box 64 (avs (FieldV.cells f)))] 2 ?_
 refine AWp.block ?_
 refine AWp.hz [.run 2] 50 [(2, .ptr 0 0), (3, .ptr 1 0), (6, vi a.kind), (7, vb (a.kind == 2))] [(1, .box 51 (avs (Attr.cells a))), (0, .box 64 (avs (FieldV.cells f)))] 2 ?_
 refine AWp.cnd ((a.kind == 2)) (fun h1 => ?_) (fun h1 => ?_)
 ·
  refine AWp.join (Z 50 [(4, vb ((f.scale != 0) && (((f.map.length : Nat) : Int) == 0)))] [] 2) ?_ ?_
  ·
   refine AWp.region ?_
   refine AOps.hg [.run 4] ((f.scale != 0)) 50 (fun b_ => [(2, .ptr 0 0), (12, vb b_)]) [(0, .box 64 (avs (FieldV.cells f)))] 2 (fun hg2 => ?_) (fun hg2 => ?_)
   ·
    refine AOps.hel [.run 2, .len intC f.map 1, .run 3] 50 [(4, vb (((f.map.length : Nat) : Int) == 0))] [] 2 (fun hl => ?_)
    obtain ⟨hn3, -⟩ := hl
    exact leZ (by rw [hg2]; first | done | kernel_rfl)
   ·
    refine AOps.he [.run 6] 50 [(4, vb false)] [] 2 ?_
    exact leZ (by rw [hg2]; first | done | kernel_rfl)
  ·
   refine AWp.ret ?_
   exact leafR (r := vb ((f.scale != 0) && (((f.map.length : Nat) : Int) == 0))) (by unfold formM; (try rw [h1]); first | done | kernel_rfl)
 ·
  refine AWp.hz [.run 2] 50 [(2, .ptr 0 0), (3, .ptr 1 0), (18, vb (a.kind == 3))] [(1, .box 51 (avs (Attr.cells a))), (0, .box 64 (avs (FieldV.cells f)))] 2 ?_
  refine AWp.cnd ((a.kind == 3)) (fun h4 => ?_) (fun h4 => ?_)
  ·
   refine AWp.join (Z 50 [(4, vb (((f.scale == 0) && (f.offset == 0)) && mappedM f.map ((a.enum.length : Nat) : Int)))] [] 2) ?_ ?_
   ·
    refine AWp.region ?_
    refine AOps.hg [.run 4] ((f.scale == 0)) 50 (fun b_ => [(2, .ptr 0 0), (3, .ptr 1 0), (23, vb b_)]) [(1, .box 51 (avs (Attr.cells a))), (0, .box 64 (avs (FieldV.cells f)))] 2 (fun hg5 => ?_) (fun hg5 => ?_)
    ·
     refine AOps.hg [.run 5] ((f.offset == 0)) 50 (fun b_ => [(2, .ptr 0 0), (3, .ptr 1 0), (28, vb b_)]) [(1, .box 51 (avs (Attr.cells a))), (0, .box 64 (avs (FieldV.cells f)))] 2 (fun hg6 => ?_) (fun hg6 => ?_)
     ·
      refine AOps.hel [.run 4, .len strC a.enum 1, .call 68 [.rv (.sl 1 (f.map.map intC)), vi ((a.enum.length : Nat) : Int)] (vb (mappedM f.map ((a.enum.length : Nat) : Int))) [] 0 (mappedM_ok f.map ((a.enum.length : Nat) : Int)), .run 2] 50 [(4, vb (mappedM f.map ((a.enum.length : Nat) : Int)))] [] 2 (fun hl => ?_)
      obtain ⟨hn7, -⟩ := hl
      exact leZ (by rw [hg5, hg6]; first | done | kernel_rfl)
     ·
      refine AOps.he [.run 8] 50 [(4, vb false)] [] 2 ?_
      exact leZ (by rw [hg5, hg6]; first | done | kernel_rfl)
    ·
     refine AOps.he [.run 13] 50 [(4, vb false)] [] 2 ?_
     exact leZ (by rw [hg5]; first | done | kernel_rfl)
   ·
    refine AWp.ret ?_
    exact leafR (r := vb (((f.scale == 0) && (f.offset == 0)) && mappedM f.map ((a.enum.length : Nat) : Int))) (by unfold formM; (try rw [h1]); (try rw [h4]); first | done | kernel_rfl)
  ·
   refine AWp.skip ?_
   refine AWp.join (Z 50 [(4, vb (((f.scale == 0) && (f.offset == 0)) && (((f.map.length : Nat) : Int) == 0)))] [] 2) ?_ ?_
   ·
    refine AWp.region ?_
    refine AOps.hg [.run 4] ((f.scale == 0)) 50 (fun b_ => [(2, .ptr 0 0), (39, vb b_)]) [(0, .box 64 (avs (FieldV.cells f)))] 2 (fun hg8 => ?_) (fun hg8 => ?_)
    ·
     refine AOps.hg [.run 5] ((f.offset == 0)) 50 (fun b_ => [(2, .ptr 0 0), (44, vb b_)]) [(0, .box 64 (avs (FieldV.cells f)))] 2 (fun hg9 => ?_) (fun hg9 => ?_)
     ·
      refine AOps.hel [.run 2, .len intC f.map 1, .run 3] 50 [(4, vb (((f.map.length : Nat) : Int) == 0))] [] 2 (fun hl => ?_)
      obtain ⟨hn10, -⟩ := hl
      exact leZ (by rw [hg8, hg9]; first | done | kernel_rfl)
     ·
      refine AOps.he [.run 6] 50 [(4, vb false)] [] 2 ?_
      exact leZ (by rw [hg8, hg9]; first | done | kernel_rfl)
    ·
     refine AOps.he [.run 11] 50 [(4, vb false)] [] 2 ?_
     exact leZ (by rw [hg8]; first | done | kernel_rfl)
   ·
    refine AWp.ret ?_
    exact leafR (r := vb (((f.scale == 0) && (f.offset == 0)) && (((f.map.length : Nat) : Int) == 0))) (by unfold formM; (try rw [h1]); (try rw [h4]); first | done | kernel_rfl)
def shapeM_B1 (f : FieldV) (a : Attr) (k1_ : Nat) : Option Bool :=
  (match (f.map)[k1_]? with | some e1_ => (bif decide (e1_ < 0) then some false else (bif decide (e1_ > 65535) then some false else (bif decide (rindexM (f.map.take k1_) e1_ ≥ 0) then some false else none))) | none => none)
def shapeM_L1 (f : FieldV) (a : Attr) : Option Bool := scanN (shapeM_B1 f a) 0 f.map.length
def shapeM (f : FieldV) (a : Attr) : Bool :=
  (bif (a.kind == 2) then (decide (f.scale > 0) && (((f.map.length : Nat) : Int) == 0)) else (bif (((f.scale != 0) || (f.offset != 0)) || (((f.map.length : Nat) : Int) != ((a.enum.length : Nat) : Int))) then false else (shapeM_L1 f a).getD true))
theorem shapeM_ok (f : FieldV) (a : Attr) :
 ACalls Try.prog G_ 24 [.agg (avs (FieldV.cells f)), .agg (avs (Attr.cells a))] [] 0 (fun r τ => r = vb (shapeM f a) ∧ τ = []) := by
 refine ACalls.body Try.func24 rfl 69 [(0, .agg (avs (FieldV.cells f))), (1, .agg (avs (Attr.cells a)))] ?_
 refine AWp.hz [.run 3] 69 [(2, .ptr 0 0), (3, .ptr 1 0)] [(1, .box 51 (avs (Attr.cells a))), (0, .box 64 (avs (FieldV.cells f)))] 2 ?_
 refine AWp.seq ?_
 refine AWp.hz [.run 3] 69 [(2, .ptr 0 0), (3, .ptr 1 0), (8, vb (a.kind == 2))] [(1, .box 51 (avs (Attr.cells a))), (0, .box 64 (avs (FieldV.cells f)))] 2 ?_
 refine AWp.cnd ((a.kind == 2)) (fun h1 => ?_) (fun h1 => ?_)
 ·
  refine AWp.join (Z 69 [(4, vb (decide (f.scale > 0) && (((f.map.length : Nat) : Int) == 0)))] [] 2) ?_ ?_
  ·
   refine AWp.region ?_
   refine AOps.hg [.run 4] (decide (f.scale > 0)) 69 (fun b_ => [(2, .ptr 0 0), (12, vb b_)]) [(0, .box 64 (avs (FieldV.cells f)))] 2 (fun hg2 => ?_) (fun hg2 => ?_)
   ·
    have hg2' := of_decide_eq_true hg2
    refine AOps.hel [.run 2, .len intC f.map 1, .run 3] 69 [(4, vb (((f.map.length : Nat) : Int) == 0))] [] 2 (fun hl => ?_)
    obtain ⟨hn3, -⟩ := hl
    exact leZ (by rw [hg2]; first | done | kernel_rfl)
   ·
    have hg2' := of_decide_eq_false hg2
    refine AOps.he [.run 6] 69 [(4, vb false)] [] 2 ?_
    exact leZ (by rw [hg2]; first | done | kernel_rfl)
  ·
   refine AWp.ret ?_
   exact leafR (r := vb (decide (f.scale > 0) && (((f.map.length : Nat) : Int) == 0))) (by unfold shapeM; (try rw [h1]); first | done | kernel_rfl)
 ·
  refine AWp.skip ?_
  refine AWp.seq ?_
  refine AWp.join (Z 69 [(2, .ptr 0 0), (34, vb (((f.scale != 0) || (f.offset != 0)) || (((f.map.length : Nat) : Int) != ((a.enum.length : Nat) : Int))))] [(0, .box 64 (avs (FieldV.cells f)))] 2) ?_ ?_
  ·
   refine AWp.region ?_
   refine AOps.hg [.run 4] ((f.scale != 0)) 69 (fun b_ => [(2, .ptr 0 0), (3, .ptr 1 0), (21, vb b_)]) [(1, .box 51 (avs (Attr.cells a))), (0, .box 64 (avs (FieldV.cells f)))] 2 (fun hg4 => ?_) (fun hg4 => ?_)
   ·
    refine AOps.he [.run 13] 69 [(2, .ptr 0 0), (34, vb true)] [(0, .box 64 (avs (FieldV.cells f)))] 2 ?_
    exact leZ (by rw [hg4]; first | done | kernel_rfl)
   ·
    refine AOps.hg [.run 5] ((f.offset != 0)) 69 (fun b_ => [(2, .ptr 0 0), (3, .ptr 1 0), (26, vb b_)]) [(1, .box 51 (avs (Attr.cells a))), (0, .box 64 (avs (FieldV.cells f)))] 2 (fun hg5 => ?_) (fun hg5 => ?_)
    ·
     refine AOps.he [.run 8] 69 [(2, .ptr 0 0), (34, vb true)] [(0, .box 64 (avs (FieldV.cells f)))] 2 ?_
     exact leZ (by rw [hg4, hg5]; first | done | kernel_rfl)
    ·
     refine AOps.hel [.run 2, .len intC f.map 1, .run 2, .len strC a.enum 1, .run 2] 69 [(2, .ptr 0 0), (34, vb (((f.map.length : Nat) : Int) != ((a.enum.length : Nat) : Int)))] [(0, .box 64 (avs (FieldV.cells f)))] 2 (fun hl => ?_)
     obtain ⟨hn6, hn7, -⟩ := hl
     exact leZ (by rw [hg4, hg5]; first | done | kernel_rfl)
  ·
   refine AWp.cnd ((((f.scale != 0) || (f.offset != 0)) || (((f.map.length : Nat) : Int) != ((a.enum.length : Nat) : Int)))) (fun h8 => ?_) (fun h8 => ?_)
   ·
    refine AWp.hz [.run 1] 69 [(4, vb false)] [] 2 ?_
    refine AWp.ret ?_
    exact leafR (r := vb false) (by unfold shapeM; (try rw [h1]); (try rw [h8]); first | done | kernel_rfl)
   ·
    have h8l := or_fl h8
    have h8ll := or_fl h8l
    have h8lr := or_fr h8l
    have h8r := or_fr h8
    have h8r' := bne_f h8r
    refine AWp.skip ?_
    refine AWp.seq ?_
    refine AWp.hz [.run 1] 69 [(2, .ptr 0 0), (5, vi 0)] [(0, .box 64 (avs (FieldV.cells f)))] 2 ?_
    refine AWp.block ?_
    refine AWp.loop (ι := Nat) (fun k1_ => Z 69 [(2, .ptr 0 0), (5, vi ((k1_ : Nat) : Int))] [(0, .box 64 (avs (FieldV.cells f)))] 2) (fun k1_ => k1_ ≤ f.map.length ∧ shapeM_L1 f a = scanN (shapeM_B1 f a) k1_ (f.map.length - k1_)) (fun k1_ => f.map.length - k1_) 0 leZ ⟨Nat.zero_le _, rfl⟩ ?_
    intro k1_ ⟨hk1_, hs1_⟩
    refine AWp.seq ?_
    refine AWp.hzl [.run 3, .len intC f.map 1, .run 1] 69 [(2, .ptr 0 0), (5, vi ((k1_ : Nat) : Int)), (39, vb (decide (((k1_ : Nat) : Int) < ((f.map.length : Nat) : Int))))] [(0, .box 64 (avs (FieldV.cells f)))] 2 (fun hl => ?_)
    obtain ⟨hn9, -⟩ := hl
    refine AWp.cnd (decide (((k1_ : Nat) : Int) < ((f.map.length : Nat) : Int))) (fun h10 => ?_) (fun h10 => ?_)
    ·
     have h10' := of_decide_eq_true h10
     refine AWp.skip ?_
     refine AWp.seq ?_
     refine AWp.block ?_
     obtain ⟨e1_, he1_⟩ := getEx (l := f.map) (j := k1_) (by omega)
     refine AWp.split (decide (e1_ < 0)) (fun h11 => ?_) (fun h11 => ?_)
     ·
      have h11' := of_decide_eq_true h11
      refine AWp.dz [.ptr 0 5, .rv (.sl 1 (f.map.map intC)), vi ((k1_ : Nat) : Int), .rv (.ptr (intC e1_)), vi e1_, vb true, vb true, .tuple [], .tuple [], .tuple [], .tuple [], .tuple [], .tuple [], vb true, vb true, .tuple [], .tuple [], .tuple [], .tuple [], .tuple [], .tuple [], .tuple [], .tuple [], .tuple [], .tuple [], .tuple [], vb true] 69 [(2, .ptr 0 0), (5, vi ((k1_ : Nat) : Int)), (68, vb true)] [(0, .box 64 (avs (FieldV.cells f)))] 2 ?_ ?_
      ·
       refine DSteps.cons (DStep.va) ?_
       refine DSteps.cons (DStep.va) ?_
       refine DSteps.cons (DStep.va) ?_
       refine DSteps.cons (DStep.vs (by kernel_rfl) (R_indexAddrM intC f.map 1 k1_ rfl (by kernel_rfl) (by kernel_rfl) (by kernel_rfl) he1_)) ?_
       refine DSteps.cons (DStep.va) ?_
       refine DSteps.cons ((DStep.val (v := vb (decide (e1_ < 0))) (by kernel_rfl) (by kernel_rfl)).cast (congrArg vb h11)) ?_
       refine DSteps.cons (DStep.va) ?_
       refine DSteps.cons (DStep.skip (by kernel_rfl)) ?_
       refine DSteps.cons (DStep.skip (by kernel_rfl)) ?_
       refine DSteps.cons (DStep.skip (by kernel_rfl)) ?_
       refine DSteps.cons (DStep.skip (by kernel_rfl)) ?_
       refine DSteps.cons (DStep.skip (by kernel_rfl)) ?_
       refine DSteps.cons (DStep.skip (by kernel_rfl)) ?_
       refine DSteps.cons (DStep.va) ?_
       refine DSteps.cons (DStep.va) ?_
       refine DSteps.cons (DStep.skip (by kernel_rfl)) ?_
       refine DSteps.cons (DStep.skip (by kernel_rfl)) ?_
       refine DSteps.cons (DStep.skip (by kernel_rfl)) ?_
       refine DSteps.cons (DStep.skip (by kernel_rfl)) ?_
       refine DSteps.cons (DStep.skip (by kernel_rfl)) ?_
       refine DSteps.cons (DStep.skip (by kernel_rfl)) ?_
       refine DSteps.cons (DStep.skip (by kernel_rfl)) ?_
       refine DSteps.cons (DStep.skip (by kernel_rfl)) ?_
       refine DSteps.cons (DStep.skip (by kernel_rfl)) ?_
       refine DSteps.cons (DStep.skip (by kernel_rfl)) ?_
       refine DSteps.cons (DStep.skip (by kernel_rfl)) ?_
       refine DSteps.cons (DStep.va) ?_
       exact DSteps.nl
      refine AWp.cndT ?_
      refine AWp.hz [.run 1] 69 [(4, vb false)] [] 2 ?_
      refine AWp.ret ?_
      have hL1_ : shapeM_L1 f a = some false := scanN_some hs1_ (by omega) (by unfold shapeM_B1; (try simp only [he1_]); (try rw [h10]); (try rw [h11]); first | done | kernel_rfl)
      exact leafR (r := vb false) (by unfold shapeM; (try rw [h1]); (try rw [h8]); (try rw [hL1_]); first | done | kernel_rfl)
     ·
      have h11' := of_decide_eq_false h11
      refine AWp.split (decide (e1_ > 65535)) (fun h12 => ?_) (fun h12 => ?_)
      ·
       have h12' := of_decide_eq_true h12
       refine AWp.dz [.ptr 0 5, .rv (.sl 1 (f.map.map intC)), vi ((k1_ : Nat) : Int), .rv (.ptr (intC e1_)), vi e1_, vb false, vb false, .ptr 0 5, .rv (.sl 1 (f.map.map intC)), vi ((k1_ : Nat) : Int), .rv (.ptr (intC e1_)), vi e1_, vb true, vb true, vb true, .tuple [], .tuple [], .tuple [], .tuple [], .tuple [], .tuple [], .tuple [], .tuple [], .tuple [], .tuple [], .tuple [], vb true] 69 [(2, .ptr 0 0), (5, vi ((k1_ : Nat) : Int)), (68, vb true)] [(0, .box 64 (avs (FieldV.cells f)))] 2 ?_ ?_
       ·
        refine DSteps.cons (DStep.va) ?_
        refine DSteps.cons (DStep.va) ?_
        refine DSteps.cons (DStep.va) ?_
        refine DSteps.cons (DStep.vs (by kernel_rfl) (R_indexAddrM intC f.map 1 k1_ rfl (by kernel_rfl) (by kernel_rfl) (by kernel_rfl) he1_)) ?_
        refine DSteps.cons (DStep.va) ?_
        refine DSteps.cons ((DStep.val (v := vb (decide (e1_ < 0))) (by kernel_rfl) (by kernel_rfl)).cast (congrArg vb h11)) ?_
        refine DSteps.cons (DStep.va) ?_
        refine DSteps.cons (DStep.va) ?_
        refine DSteps.cons (DStep.va) ?_
        refine DSteps.cons (DStep.va) ?_
        refine DSteps.cons (DStep.vs (by kernel_rfl) (R_indexAddrM intC f.map 1 k1_ rfl (by kernel_rfl) (by kernel_rfl) (by kernel_rfl) he1_)) ?_
        refine DSteps.cons (DStep.va) ?_
        refine DSteps.cons ((DStep.val (v := vb (decide (e1_ > 65535))) (by kernel_rfl) (by kernel_rfl)).cast (congrArg vb h12)) ?_
        refine DSteps.cons (DStep.va) ?_
        refine DSteps.cons (DStep.va) ?_
        refine DSteps.cons (DStep.skip (by kernel_rfl)) ?_
        refine DSteps.cons (DStep.skip (by kernel_rfl)) ?_
        refine DSteps.cons (DStep.skip (by kernel_rfl)) ?_
        refine DSteps.cons (DStep.skip (by kernel_rfl)) ?_
        refine DSteps.cons (DStep.skip (by kernel_rfl)) ?_
        refine DSteps.cons (DStep.skip (by kernel_rfl)) ?_
        refine DSteps.cons (DStep.skip (by kernel_rfl)) ?_
        refine DSteps.cons (DStep.skip (by kernel_rfl)) ?_
        refine DSteps.cons (DStep.skip (by kernel_rfl)) ?_
        refine DSteps.cons (DStep.skip (by kernel_rfl)) ?_
        refine DSteps.cons (DStep.skip (by kernel_rfl)) ?_
        refine DSteps.cons (DStep.va) ?_
        exact DSteps.nl
       refine AWp.cndT ?_
       refine AWp.hz [.run 1] 69 [(4, vb false)] [] 2 ?_
       refine AWp.ret ?_
       have hL1_ : shapeM_L1 f a = some false := scanN_some hs1_ (by omega) (by unfold shapeM_B1; (try simp only [he1_]); (try rw [h10]); (try rw [h11]); (try rw [h12]); first | done | kernel_rfl)
       exact leafR (r := vb false) (by unfold shapeM; (try rw [h1]); (try rw [h8]); (try rw [hL1_]); first | done | kernel_rfl)
      ·
       have h12' := of_decide_eq_false h12
       refine AWp.dz [.ptr 0 5, .rv (.sl 1 (f.map.map intC)), vi ((k1_ : Nat) : Int), .rv (.ptr (intC e1_)), vi e1_, vb false, vb false, .ptr 0 5, .rv (.sl 1 (f.map.map intC)), vi ((k1_ : Nat) : Int), .rv (.ptr (intC e1_)), vi e1_, vb false, vb false, vb false, .ptr 0 5, .rv (.sl 1 (f.map.map intC)), vi ((k1_ : Nat) : Int), .rv (.sl 1 ((f.map.take k1_).map intC)), .ptr 0 5, .rv (.sl 1 (f.map.map intC)), vi ((k1_ : Nat) : Int), .rv (.ptr (intC e1_)), vi e1_, vi (rindexM (f.map.take k1_) e1_), vb (decide (rindexM (f.map.take k1_) e1_ ≥ 0)), vb (decide (rindexM (f.map.take k1_) e1_ ≥ 0))] 69 [(2, .ptr 0 0), (5, vi ((k1_ : Nat) : Int)), (68, vb (decide (rindexM (f.map.take k1_) e1_ ≥ 0)))] [(0, .box 64 (avs (FieldV.cells f)))] 2 ?_ ?_
       ·
        refine DSteps.cons (DStep.va) ?_
        refine DSteps.cons (DStep.va) ?_
        refine DSteps.cons (DStep.va) ?_
        refine DSteps.cons (DStep.vs (by kernel_rfl) (R_indexAddrM intC f.map 1 k1_ rfl (by kernel_rfl) (by kernel_rfl) (by kernel_rfl) he1_)) ?_
        refine DSteps.cons (DStep.va) ?_
        refine DSteps.cons ((DStep.val (v := vb (decide (e1_ < 0))) (by kernel_rfl) (by kernel_rfl)).cast (congrArg vb h11)) ?_
        refine DSteps.cons (DStep.va) ?_
        refine DSteps.cons (DStep.va) ?_
        refine DSteps.cons (DStep.va) ?_
        refine DSteps.cons (DStep.va) ?_
        refine DSteps.cons (DStep.vs (by kernel_rfl) (R_indexAddrM intC f.map 1 k1_ rfl (by kernel_rfl) (by kernel_rfl) (by kernel_rfl) he1_)) ?_
        refine DSteps.cons (DStep.va) ?_
        refine DSteps.cons ((DStep.val (v := vb (decide (e1_ > 65535))) (by kernel_rfl) (by kernel_rfl)).cast (congrArg vb h12)) ?_
        refine DSteps.cons (DStep.va) ?_
        refine DSteps.cons (DStep.va) ?_
        refine DSteps.cons (DStep.va) ?_
        refine DSteps.cons (DStep.va) ?_
        refine DSteps.cons (DStep.va) ?_
        refine DSteps.cons (DStep.vs (by kernel_rfl) (R_sliceM intC f.map 1 k1_ rfl (by kernel_rfl) (by kernel_rfl) (by kernel_rfl) (by omega))) ?_
        refine DSteps.cons (DStep.va) ?_
        refine DSteps.cons (DStep.va) ?_
        refine DSteps.cons (DStep.va) ?_
        refine DSteps.cons (DStep.vs (by kernel_rfl) (R_indexAddrM intC f.map 1 k1_ rfl (by kernel_rfl) (by kernel_rfl) (by kernel_rfl) he1_)) ?_
        refine DSteps.cons (DStep.va) ?_
        refine DSteps.cons (DStep.call rfl (by kernel_rfl) (by kernel_rfl) (by kernel_rfl) (args := [.rv (.sl 1 ((f.map.take k1_).map intC)), vi e1_]) (by kernel_rfl) (by kernel_rfl) (rindexM_ok (f.map.take k1_) e1_) (by kernel_rfl) (Nat.le_of_ble_eq_true (by kernel_rfl))) ?_
        refine DSteps.cons (DStep.va) ?_
        refine DSteps.cons (DStep.va) ?_
        exact DSteps.nl
       refine AWp.cnd (decide (rindexM (f.map.take k1_) e1_ ≥ 0)) (fun h13 => ?_) (fun h13 => ?_)
       ·
        have h13' := of_decide_eq_true h13
        refine AWp.hz [.run 1] 69 [(4, vb false)] [] 2 ?_
        refine AWp.ret ?_
        have hL1_ : shapeM_L1 f a = some false := scanN_some hs1_ (by omega) (by unfold shapeM_B1; (try simp only [he1_]); (try rw [h10]); (try rw [h11]); (try rw [h12]); (try rw [h13]); first | done | kernel_rfl)
        exact leafR (r := vb false) (by unfold shapeM; (try rw [h1]); (try rw [h8]); (try rw [hL1_]); first | done | kernel_rfl)
       ·
        have h13' := of_decide_eq_false h13
        refine AWp.skip ?_
        refine AWp.he [.run 1, .cast (vi (IntKind.i64.wrap (((k1_ : Nat) : Int) + 1))) (vi ((k1_ + 1 : Nat) : Int)) (congrArg vi (wrap_nat (by omega))), .run 1] 69 [(2, .ptr 0 0), (5, vi ((k1_ + 1 : Nat) : Int))] [(0, .box 64 (avs (FieldV.cells f)))] 2 ?_
        exact ⟨k1_ + 1, ⟨by omega, scanN_none hs1_ (by omega) (by unfold shapeM_B1; (try simp only [he1_]); (try rw [h10]); (try rw [h11]); (try rw [h12]); (try rw [h13]); first | done | kernel_rfl)⟩, by omega, leG⟩
    ·
     have h10' := of_decide_eq_false h10
     refine AWp.exit ?_
     have hL1_ : shapeM_L1 f a = none := scanN_end hs1_ (by omega)
     refine AWp.hz [.run 1] 69 [(4, vb true)] [] 2 ?_
     refine AWp.ret ?_
     exact leafR (r := vb true) (by unfold shapeM; (try rw [h1]); (try rw [h8]); (try rw [hL1_]); first | done | kernel_rfl)
def fieldM_B1 (c : Codec) (h : Home) (i : Nat) (e1_ : FieldV) (k1_ : Nat) : Option Int :=
  (match ((c.fields.take i))[k1_]? with | some e2_ => (bif (e2_.code == e1_.code) then some 9 else none) | none => none)
def fieldM_L1 (c : Codec) (h : Home) (i : Nat) (e1_ : FieldV) : Option Int := scanN (fieldM_B1 c h i e1_) 0 ((c.fields.take i).length)
def fieldM (c : Codec) (h : Home) (i : Nat) : Int :=
  (match (c.fields)[i]? with | some e1_ => (bif ((decide (e1_.code < 0) || (decide (e1_.code > 255) || (decide (e1_.scale < 0) || (decide (e1_.scale > 1000) || decide (e1_.offset < -100000))))) || decide (e1_.offset > 100000)) then 2 else (fieldM_L1 c h i e1_).getD (bif !((vattrM h e1_).2) then 8 else (bif (((vattrM h e1_).1).kind == 4) then 11 else (bif !(formM e1_ ((vattrM h e1_).1)) then 4 else 0)))) | none => 0)
theorem fieldM_ok (c : Codec) (h : Home) (i : Nat) (hi : i < c.fields.length) :
 ACalls Try.prog G_ 20 [.agg (avs (Codec.cells c)), .agg (avs (Home.cells h)), vi ((i : Nat) : Int)] [] 0 (fun r τ => r = vi (fieldM c h i) ∧ τ = []) := by
 refine ACalls.body Try.func20 rfl 78 [(0, .agg (avs (Codec.cells c))), (1, .agg (avs (Home.cells h))), (2, vi ((i : Nat) : Int))] ?_
 refine AWp.hz [.run 3] 78 [(2, vi ((i : Nat) : Int)), (3, .ptr 0 0), (4, .ptr 1 0)] [(1, .box 28 (avs (Home.cells h))), (0, .box 24 (avs (Codec.cells c)))] 2 ?_
 obtain ⟨e1_, he1_⟩ := getEx (l := c.fields) (j := i) (by omega)
 refine AWp.hz [.run 3, .idx FieldV.cells c.fields 6 i e1_ he1_, .run 3] 78 [(2, vi ((i : Nat) : Int)), (3, .ptr 0 0), (4, .ptr 1 0), (7, .ptr 2 0)] [(2, .box 64 (avs (FieldV.cells e1_))), (1, .box 28 (avs (Home.cells h))), (0, .box 24 (avs (Codec.cells c)))] 3 ?_
 refine AWp.seq ?_
 refine AWp.join (Z 78 [(2, vi ((i : Nat) : Int)), (3, .ptr 0 0), (4, .ptr 1 0), (7, .ptr 2 0), (44, vb ((decide (e1_.code < 0) || (decide (e1_.code > 255) || (decide (e1_.scale < 0) || (decide (e1_.scale > 1000) || decide (e1_.offset < -100000))))) || decide (e1_.offset > 100000)))] [(2, .box 64 (avs (FieldV.cells e1_))), (1, .box 28 (avs (Home.cells h))), (0, .box 24 (avs (Codec.cells c)))] 3) ?_ ?_
 ·
  refine AWp.region ?_
  refine AOps.hg [.run 4] (decide (e1_.code < 0)) 78 (fun b_ => [(2, vi ((i : Nat) : Int)), (3, .ptr 0 0), (4, .ptr 1 0), (7, .ptr 2 0), (20, vb b_)]) [(2, .box 64 (avs (FieldV.cells e1_))), (1, .box 28 (avs (Home.cells h))), (0, .box 24 (avs (Codec.cells c)))] 3 (fun hg1 => ?_) (fun hg1 => ?_)
  ·
   have hg1' := of_decide_eq_true hg1
   refine AOps.he [.run 24] 78 [(2, vi ((i : Nat) : Int)), (3, .ptr 0 0), (4, .ptr 1 0), (7, .ptr 2 0), (44, vb true)] [(2, .box 64 (avs (FieldV.cells e1_))), (1, .box 28 (avs (Home.cells h))), (0, .box 24 (avs (Codec.cells c)))] 3 ?_
   exact leZ (by rw [hg1]; first | done | kernel_rfl)
  ·
   have hg1' := of_decide_eq_false hg1
   refine AOps.hg [.run 5] (decide (e1_.code > 255)) 78 (fun b_ => [(2, vi ((i : Nat) : Int)), (3, .ptr 0 0), (4, .ptr 1 0), (7, .ptr 2 0), (25, vb b_)]) [(2, .box 64 (avs (FieldV.cells e1_))), (1, .box 28 (avs (Home.cells h))), (0, .box 24 (avs (Codec.cells c)))] 3 (fun hg2 => ?_) (fun hg2 => ?_)
   ·
    have hg2' := of_decide_eq_true hg2
    refine AOps.he [.run 19] 78 [(2, vi ((i : Nat) : Int)), (3, .ptr 0 0), (4, .ptr 1 0), (7, .ptr 2 0), (44, vb true)] [(2, .box 64 (avs (FieldV.cells e1_))), (1, .box 28 (avs (Home.cells h))), (0, .box 24 (avs (Codec.cells c)))] 3 ?_
    exact leZ (by rw [hg1, hg2]; first | done | kernel_rfl)
   ·
    have hg2' := of_decide_eq_false hg2
    refine AOps.hg [.run 5] (decide (e1_.scale < 0)) 78 (fun b_ => [(2, vi ((i : Nat) : Int)), (3, .ptr 0 0), (4, .ptr 1 0), (7, .ptr 2 0), (30, vb b_)]) [(2, .box 64 (avs (FieldV.cells e1_))), (1, .box 28 (avs (Home.cells h))), (0, .box 24 (avs (Codec.cells c)))] 3 (fun hg3 => ?_) (fun hg3 => ?_)
    ·
     have hg3' := of_decide_eq_true hg3
     refine AOps.he [.run 14] 78 [(2, vi ((i : Nat) : Int)), (3, .ptr 0 0), (4, .ptr 1 0), (7, .ptr 2 0), (44, vb true)] [(2, .box 64 (avs (FieldV.cells e1_))), (1, .box 28 (avs (Home.cells h))), (0, .box 24 (avs (Codec.cells c)))] 3 ?_
     exact leZ (by rw [hg1, hg2, hg3]; first | done | kernel_rfl)
    ·
     have hg3' := of_decide_eq_false hg3
     refine AOps.hg [.run 5] (decide (e1_.scale > 1000)) 78 (fun b_ => [(2, vi ((i : Nat) : Int)), (3, .ptr 0 0), (4, .ptr 1 0), (7, .ptr 2 0), (35, vb b_)]) [(2, .box 64 (avs (FieldV.cells e1_))), (1, .box 28 (avs (Home.cells h))), (0, .box 24 (avs (Codec.cells c)))] 3 (fun hg4 => ?_) (fun hg4 => ?_)
     ·
      have hg4' := of_decide_eq_true hg4
      refine AOps.he [.run 9] 78 [(2, vi ((i : Nat) : Int)), (3, .ptr 0 0), (4, .ptr 1 0), (7, .ptr 2 0), (44, vb true)] [(2, .box 64 (avs (FieldV.cells e1_))), (1, .box 28 (avs (Home.cells h))), (0, .box 24 (avs (Codec.cells c)))] 3 ?_
      exact leZ (by rw [hg1, hg2, hg3, hg4]; first | done | kernel_rfl)
     ·
      have hg4' := of_decide_eq_false hg4
      refine AOps.hg [.run 5] (decide (e1_.offset < -100000)) 78 (fun b_ => [(2, vi ((i : Nat) : Int)), (3, .ptr 0 0), (4, .ptr 1 0), (7, .ptr 2 0), (40, vb b_)]) [(2, .box 64 (avs (FieldV.cells e1_))), (1, .box 28 (avs (Home.cells h))), (0, .box 24 (avs (Codec.cells c)))] 3 (fun hg5 => ?_) (fun hg5 => ?_)
      ·
       have hg5' := of_decide_eq_true hg5
       refine AOps.he [.run 4] 78 [(2, vi ((i : Nat) : Int)), (3, .ptr 0 0), (4, .ptr 1 0), (7, .ptr 2 0), (44, vb true)] [(2, .box 64 (avs (FieldV.cells e1_))), (1, .box 28 (avs (Home.cells h))), (0, .box 24 (avs (Codec.cells c)))] 3 ?_
       exact leZ (by rw [hg1, hg2, hg3, hg4, hg5]; first | done | kernel_rfl)
      ·
       have hg5' := of_decide_eq_false hg5
       refine AOps.he [.run 4] 78 [(2, vi ((i : Nat) : Int)), (3, .ptr 0 0), (4, .ptr 1 0), (7, .ptr 2 0), (44, vb (decide (e1_.offset > 100000)))] [(2, .box 64 (avs (FieldV.cells e1_))), (1, .box 28 (avs (Home.cells h))), (0, .box 24 (avs (Codec.cells c)))] 3 ?_
       exact leZ (by rw [hg1, hg2, hg3, hg4, hg5]; first | done | kernel_rfl)
 ·
  refine AWp.cnd (((decide (e1_.code < 0) || (decide (e1_.code > 255) || (decide (e1_.scale < 0) || (decide (e1_.scale > 1000) || decide (e1_.offset < -100000))))) || decide (e1_.offset > 100000))) (fun h6 => ?_) (fun h6 => ?_)
  ·
   refine AWp.hz [.run 1] 78 [(6, vi 2)] [] 3 ?_
   refine AWp.ret ?_
   exact leafR (r := vi 2) (by unfold fieldM; (try simp only [he1_]); (try rw [h6]); first | done | kernel_rfl)
  ·
   have h6l := or_fl h6
   have h6ll := or_fl h6l
   have h6ll' := of_decide_eq_false h6ll
   have h6lr := or_fr h6l
   have h6lrl := or_fl h6lr
   have h6lrl' := of_decide_eq_false h6lrl
   have h6lrr := or_fr h6lr
   have h6lrrl := or_fl h6lrr
   have h6lrrl' := of_decide_eq_false h6lrrl
   have h6lrrr := or_fr h6lrr
   have h6lrrrl := or_fl h6lrrr
   have h6lrrrl' := of_decide_eq_false h6lrrrl
   have h6lrrrr := or_fr h6lrrr
   have h6lrrrr' := of_decide_eq_false h6lrrrr
   have h6r := or_fr h6
   have h6r' := of_decide_eq_false h6r
   refine AWp.skip ?_
   refine AWp.seq ?_
   refine AWp.hzl [.run 3, .take FieldV.cells c.fields 6 i (by omega), .len FieldV.cells (c.fields.take i) 6, .run 1] 78 [(4, .ptr 1 0), (7, .ptr 2 0), (48, .rv (.sl 6 ((c.fields.take i).map FieldV.cells))), (49, vi (((c.fields.take i).length : Nat) : Int)), (50, vi 0)] [(2, .box 64 (avs (FieldV.cells e1_))), (1, .box 28 (avs (Home.cells h)))] 3 (fun hl => ?_)
   obtain ⟨hn7, -⟩ := hl
   refine AWp.block ?_
   refine AWp.loop (ι := Nat) (fun k1_ => Z 78 [(4, .ptr 1 0), (7, .ptr 2 0), (48, .rv (.sl 6 ((c.fields.take i).map FieldV.cells))), (49, vi (((c.fields.take i).length : Nat) : Int)), (50, vi ((k1_ : Nat) : Int))] [(2, .box 64 (avs (FieldV.cells e1_))), (1, .box 28 (avs (Home.cells h)))] 3) (fun k1_ => k1_ ≤ ((c.fields.take i).length) ∧ fieldM_L1 c h i e1_ = scanN (fieldM_B1 c h i e1_) k1_ (((c.fields.take i).length) - k1_)) (fun k1_ => ((c.fields.take i).length) - k1_) 0 leZ ⟨Nat.zero_le _, rfl⟩ ?_
   intro k1_ ⟨hk1_, hs1_⟩
   refine AWp.hz [.run 1] 78 [(4, .ptr 1 0), (7, .ptr 2 0), (48, .rv (.sl 6 ((c.fields.take i).map FieldV.cells))), (49, vi (((c.fields.take i).length : Nat) : Int)), (50, vi ((k1_ : Nat) : Int)), (51, vb (decide (((k1_ : Nat) : Int) < (((c.fields.take i).length : Nat) : Int))))] [(2, .box 64 (avs (FieldV.cells e1_))), (1, .box 28 (avs (Home.cells h)))] 3 ?_
   refine AWp.seq ?_
   refine AWp.cnd (decide (((k1_ : Nat) : Int) < (((c.fields.take i).length : Nat) : Int))) (fun h8 => ?_) (fun h8 => ?_)
   ·
    have h8' := of_decide_eq_true h8
    refine AWp.skip ?_
    refine AWp.seq ?_
    refine AWp.block ?_
    obtain ⟨e2_, he2_⟩ := getEx (l := (c.fields.take i)) (j := k1_) (by first | omega | (simp only [List.length_take]; omega))
    refine AWp.hz [.idx FieldV.cells (c.fields.take i) 6 k1_ e2_ he2_, .run 3] 78 [(4, .ptr 1 0), (7, .ptr 2 0), (9, .ptr 3 0), (48, .rv (.sl 6 ((c.fields.take i).map FieldV.cells))), (49, vi (((c.fields.take i).length : Nat) : Int)), (50, vi ((k1_ : Nat) : Int))] [(3, .box 64 (avs (FieldV.cells e2_))), (2, .box 64 (avs (FieldV.cells e1_))), (1, .box 28 (avs (Home.cells h)))] 4 ?_
    refine AWp.hz [.run 5] 78 [(4, .ptr 1 0), (7, .ptr 2 0), (48, .rv (.sl 6 ((c.fields.take i).map FieldV.cells))), (49, vi (((c.fields.take i).length : Nat) : Int)), (50, vi ((k1_ : Nat) : Int)), (58, vb (e2_.code == e1_.code))] [(2, .box 64 (avs (FieldV.cells e1_))), (1, .box 28 (avs (Home.cells h)))] 4 ?_
    refine AWp.cnd ((e2_.code == e1_.code)) (fun h9 => ?_) (fun h9 => ?_)
    ·
     refine AWp.hz [.run 1] 78 [(6, vi 9)] [] 4 ?_
     refine AWp.ret ?_
     have hL1_ : fieldM_L1 c h i e1_ = some 9 := scanN_some hs1_ (by omega) (by unfold fieldM_B1; (try simp only [he1_]); (try simp only [he2_]); (try rw [h8]); (try rw [h9]); first | done | kernel_rfl)
     exact leafR (r := vi 9) (by unfold fieldM; (try simp only [he1_]); (try rw [h6]); (try rw [hL1_]); first | done | kernel_rfl)
    ·
     refine AWp.skip ?_
     refine AWp.he [.cast (vi (IntKind.i64.wrap (((k1_ : Nat) : Int) + 1))) (vi ((k1_ + 1 : Nat) : Int)) (congrArg vi (wrap_nat (by omega))), .run 1] 78 [(4, .ptr 1 0), (7, .ptr 2 0), (48, .rv (.sl 6 ((c.fields.take i).map FieldV.cells))), (49, vi (((c.fields.take i).length : Nat) : Int)), (50, vi ((k1_ + 1 : Nat) : Int))] [(2, .box 64 (avs (FieldV.cells e1_))), (1, .box 28 (avs (Home.cells h)))] 4 ?_
     exact ⟨k1_ + 1, ⟨by omega, scanN_none hs1_ (by omega) (by unfold fieldM_B1; (try simp only [he1_]); (try simp only [he2_]); (try rw [h8]); (try rw [h9]); first | done | kernel_rfl)⟩, by omega, leG⟩
   ·
    have h8' := of_decide_eq_false h8
    refine AWp.exit ?_
    have hL1_ : fieldM_L1 c h i e1_ = none := scanN_end hs1_ (by omega)
    refine AWp.hz [.run 2, .call 46 [.agg (avs (Home.cells h)), .agg (avs (FieldV.cells e1_))] (.tuple [.agg (avs (Attr.cells ((vattrM h e1_).1))), vb ((vattrM h e1_).2)]) [] 0 (vattrM_ok h e1_), .run 6] 78 [(7, .ptr 2 0), (10, .ptr 3 0), (11, vb ((vattrM h e1_).2))] [(3, .box 51 (avs (Attr.cells ((vattrM h e1_).1)))), (2, .box 64 (avs (FieldV.cells e1_)))] 4 ?_
    refine AWp.seq ?_
    refine AWp.block ?_
    refine AWp.hz [.run 3] 78 [(7, .ptr 2 0), (10, .ptr 3 0), (66, vb (!((vattrM h e1_).2)))] [(3, .box 51 (avs (Attr.cells ((vattrM h e1_).1)))), (2, .box 64 (avs (FieldV.cells e1_)))] 4 ?_
    refine AWp.cnd (!((vattrM h e1_).2)) (fun h10 => ?_) (fun h10 => ?_)
    ·
     refine AWp.hz [.run 1] 78 [(6, vi 8)] [] 4 ?_
     refine AWp.ret ?_
     exact leafR (r := vi 8) (by unfold fieldM; (try simp only [he1_]); (try rw [h6]); (try rw [hL1_]); (try rw [h10]); first | done | kernel_rfl)
    ·
     refine AWp.hz [.run 4] 78 [(7, .ptr 2 0), (10, .ptr 3 0), (69, vb (((vattrM h e1_).1).kind == 4))] [(3, .box 51 (avs (Attr.cells ((vattrM h e1_).1)))), (2, .box 64 (avs (FieldV.cells e1_)))] 4 ?_
     refine AWp.cnd ((((vattrM h e1_).1).kind == 4)) (fun h11 => ?_) (fun h11 => ?_)
     ·
      refine AWp.hz [.run 1] 78 [(6, vi 11)] [] 4 ?_
      refine AWp.ret ?_
      exact leafR (r := vi 11) (by unfold fieldM; (try simp only [he1_]); (try rw [h6]); (try rw [hL1_]); (try rw [h10]); (try rw [h11]); first | done | kernel_rfl)
     ·
      refine AWp.hz [.run 2, .call 47 [.agg (avs (FieldV.cells e1_)), .agg (avs (Attr.cells ((vattrM h e1_).1)))] (vb (formM e1_ ((vattrM h e1_).1))) [] 0 (formM_ok e1_ ((vattrM h e1_).1)), .run 2] 78 [(73, vb (!(formM e1_ ((vattrM h e1_).1))))] [] 4 ?_
      refine AWp.cnd (!(formM e1_ ((vattrM h e1_).1))) (fun h12 => ?_) (fun h12 => ?_)
      ·
       refine AWp.hz [.run 1] 78 [(6, vi 4)] [] 4 ?_
       refine AWp.ret ?_
       exact leafR (r := vi 4) (by unfold fieldM; (try simp only [he1_]); (try rw [h6]); (try rw [hL1_]); (try rw [h10]); (try rw [h11]); (try rw [h12]); first | done | kernel_rfl)
      ·
       refine AWp.skip ?_
       refine AWp.hz [.run 1] 78 [(6, vi 0)] [] 4 ?_
       refine AWp.ret ?_
       exact leafR (r := vi 0) (by unfold fieldM; (try simp only [he1_]); (try rw [h6]); (try rw [hL1_]); (try rw [h10]); (try rw [h11]); (try rw [h12]); first | done | kernel_rfl)
def venCheckM_B1 (c : Codec) (h : Home) (k1_ : Nat) : Option Int :=
  (bif (fieldM c h k1_ != 0) then some (fieldM c h k1_) else none)
def venCheckM_L1 (c : Codec) (h : Home) : Option Int := scanN (venCheckM_B1 c h) 0 c.fields.length
def venCheckM (c : Codec) (h : Home) : Int :=
  (bif (devCheckM h != 0) then devCheckM h else (bif (decide (c.vendor < 0) || decide (c.vendor > 255)) then 2 else (bif decide (((c.fields.length : Nat) : Int) > 32) then 3 else (venCheckM_L1 c h).getD 0)))
theorem venCheckM_ok (c : Codec) (h : Home) :
 ACalls Try.prog G_ 10 [.agg (avs (Codec.cells c)), .agg (avs (Home.cells h))] [] 0 (fun r τ => r = vi (venCheckM c h) ∧ τ = []) := by
 refine ACalls.body Try.func10 rfl 39 [(0, .agg (avs (Codec.cells c))), (1, .agg (avs (Home.cells h)))] ?_
 refine AWp.hz [.run 3] 39 [(2, .ptr 0 0), (3, .ptr 1 0)] [(1, .box 28 (avs (Home.cells h))), (0, .box 24 (avs (Codec.cells c)))] 2 ?_
 refine AWp.seq ?_
 refine AWp.hz [.run 1, .call 19 [.agg (avs (Home.cells h))] (vi (devCheckM h)) [] 0 (devCheckM_ok h), .run 1] 39 [(2, .ptr 0 0), (3, .ptr 1 0), (5, vi (devCheckM h))] [(1, .box 28 (avs (Home.cells h))), (0, .box 24 (avs (Codec.cells c)))] 2 ?_
 refine AWp.hz [.run 2] 39 [(2, .ptr 0 0), (3, .ptr 1 0), (5, vi (devCheckM h)), (11, vb (devCheckM h != 0))] [(1, .box 28 (avs (Home.cells h))), (0, .box 24 (avs (Codec.cells c)))] 2 ?_
 refine AWp.cnd ((devCheckM h != 0)) (fun h1 => ?_) (fun h1 => ?_)
 ·
  refine AWp.hz [.run 2] 39 [(4, vi (devCheckM h))] [] 2 ?_
  refine AWp.ret ?_
  exact leafR (r := vi (devCheckM h)) (by unfold venCheckM; (try rw [h1]); first | done | kernel_rfl)
 ·
  refine AWp.skip ?_
  refine AWp.seq ?_
  refine AWp.join (Z 39 [(2, .ptr 0 0), (3, .ptr 1 0), (20, vb (decide (c.vendor < 0) || decide (c.vendor > 255)))] [(1, .box 28 (avs (Home.cells h))), (0, .box 24 (avs (Codec.cells c)))] 2) ?_ ?_
  ·
   refine AWp.region ?_
   refine AOps.hg [.run 4] (decide (c.vendor < 0)) 39 (fun b_ => [(2, .ptr 0 0), (3, .ptr 1 0), (16, vb b_)]) [(1, .box 28 (avs (Home.cells h))), (0, .box 24 (avs (Codec.cells c)))] 2 (fun hg2 => ?_) (fun hg2 => ?_)
   ·
    have hg2' := of_decide_eq_true hg2
    refine AOps.he [.run 4] 39 [(2, .ptr 0 0), (3, .ptr 1 0), (20, vb true)] [(1, .box 28 (avs (Home.cells h))), (0, .box 24 (avs (Codec.cells c)))] 2 ?_
    exact leZ (by rw [hg2]; first | done | kernel_rfl)
   ·
    have hg2' := of_decide_eq_false hg2
    refine AOps.he [.run 4] 39 [(2, .ptr 0 0), (3, .ptr 1 0), (20, vb (decide (c.vendor > 255)))] [(1, .box 28 (avs (Home.cells h))), (0, .box 24 (avs (Codec.cells c)))] 2 ?_
    exact leZ (by rw [hg2]; first | done | kernel_rfl)
  ·
   refine AWp.cnd ((decide (c.vendor < 0) || decide (c.vendor > 255))) (fun h3 => ?_) (fun h3 => ?_)
   ·
    refine AWp.hz [.run 1] 39 [(4, vi 2)] [] 2 ?_
    refine AWp.ret ?_
    exact leafR (r := vi 2) (by unfold venCheckM; (try rw [h1]); (try rw [h3]); first | done | kernel_rfl)
   ·
    have h3l := or_fl h3
    have h3l' := of_decide_eq_false h3l
    have h3r := or_fr h3
    have h3r' := of_decide_eq_false h3r
    refine AWp.skip ?_
    refine AWp.seq ?_
    refine AWp.hzl [.run 2, .len FieldV.cells c.fields 6, .run 1] 39 [(2, .ptr 0 0), (3, .ptr 1 0), (24, vb (decide (((c.fields.length : Nat) : Int) > 32)))] [(1, .box 28 (avs (Home.cells h))), (0, .box 24 (avs (Codec.cells c)))] 2 (fun hl => ?_)
    obtain ⟨hn4, -⟩ := hl
    refine AWp.cnd (decide (((c.fields.length : Nat) : Int) > 32)) (fun h5 => ?_) (fun h5 => ?_)
    ·
     have h5' := of_decide_eq_true h5
     refine AWp.hz [.run 1] 39 [(4, vi 3)] [] 2 ?_
     refine AWp.ret ?_
     exact leafR (r := vi 3) (by unfold venCheckM; (try rw [h1]); (try rw [h3]); (try rw [h5]); first | done | kernel_rfl)
    ·
     have h5' := of_decide_eq_false h5
     refine AWp.skip ?_
     refine AWp.seq ?_
     refine AWp.hzl [.run 2, .len FieldV.cells c.fields 6, .run 1] 39 [(2, .ptr 0 0), (3, .ptr 1 0), (27, vi ((c.fields.length : Nat) : Int)), (28, vi 0)] [(1, .box 28 (avs (Home.cells h))), (0, .box 24 (avs (Codec.cells c)))] 2 (fun hl => ?_)
     obtain ⟨hn6, -⟩ := hl
     refine AWp.block ?_
     refine AWp.loop (ι := Nat) (fun k1_ => Z 39 [(2, .ptr 0 0), (3, .ptr 1 0), (27, vi ((c.fields.length : Nat) : Int)), (28, vi ((k1_ : Nat) : Int))] [(1, .box 28 (avs (Home.cells h))), (0, .box 24 (avs (Codec.cells c)))] 2) (fun k1_ => k1_ ≤ c.fields.length ∧ venCheckM_L1 c h = scanN (venCheckM_B1 c h) k1_ (c.fields.length - k1_)) (fun k1_ => c.fields.length - k1_) 0 leZ ⟨Nat.zero_le _, rfl⟩ ?_
     intro k1_ ⟨hk1_, hs1_⟩
     refine AWp.hz [.run 1] 39 [(2, .ptr 0 0), (3, .ptr 1 0), (27, vi ((c.fields.length : Nat) : Int)), (28, vi ((k1_ : Nat) : Int)), (29, vb (decide (((k1_ : Nat) : Int) < ((c.fields.length : Nat) : Int))))] [(1, .box 28 (avs (Home.cells h))), (0, .box 24 (avs (Codec.cells c)))] 2 ?_
     refine AWp.seq ?_
     refine AWp.cnd (decide (((k1_ : Nat) : Int) < ((c.fields.length : Nat) : Int))) (fun h7 => ?_) (fun h7 => ?_)
     ·
      have h7' := of_decide_eq_true h7
      refine AWp.skip ?_
      refine AWp.seq ?_
      refine AWp.block ?_
      refine AWp.hz [.run 2] 39 [(2, .ptr 0 0), (3, .ptr 1 0), (6, vi ((k1_ : Nat) : Int)), (27, vi ((c.fields.length : Nat) : Int)), (28, vi ((k1_ : Nat) : Int))] [(1, .box 28 (avs (Home.cells h))), (0, .box 24 (avs (Codec.cells c)))] 2 ?_
      refine AWp.hz [.run 3, .call 20 [.agg (avs (Codec.cells c)), .agg (avs (Home.cells h)), vi ((k1_ : Nat) : Int)] (vi (fieldM c h k1_)) [] 0 (fieldM_ok c h k1_ (by first | assumption | exact std_fit _ (List.mem_of_getElem? (by assumption)) | exact fit_s1 (by assumption) | exact std_fit | exact fun c hc => std_fit c (List.mem_of_mem_take (List.mem_of_mem_drop hc)) | exact Nat.le_trans (apply_len _ _ _ _) (by omega) | exact parts_fit (by assumption) | exact parts_fit (by assumption) _ (List.mem_of_getElem? (by assumption)) | (simp; done) | exact ⟨by simp, by simp⟩ | exact hw _ (List.mem_of_getElem? (by assumption)) | exact hw.1 _ (List.mem_of_getElem? (by assumption)) | exact (hw.2 _ (List.mem_of_getElem? (by assumption))).1 | exact (hw.2 _ (List.mem_of_getElem? (by assumption))).2 | omega | exact fit_take hw _)), .run 1] 39 [(2, .ptr 0 0), (3, .ptr 1 0), (7, vi (fieldM c h k1_)), (27, vi ((c.fields.length : Nat) : Int)), (28, vi ((k1_ : Nat) : Int))] [(1, .box 28 (avs (Home.cells h))), (0, .box 24 (avs (Codec.cells c)))] 2 ?_
      refine AWp.hz [.run 2] 39 [(2, .ptr 0 0), (3, .ptr 1 0), (7, vi (fieldM c h k1_)), (27, vi ((c.fields.length : Nat) : Int)), (28, vi ((k1_ : Nat) : Int)), (36, vb (fieldM c h k1_ != 0))] [(1, .box 28 (avs (Home.cells h))), (0, .box 24 (avs (Codec.cells c)))] 2 ?_
      refine AWp.cnd ((fieldM c h k1_ != 0)) (fun h8 => ?_) (fun h8 => ?_)
      ·
       refine AWp.hz [.run 2] 39 [(4, vi (fieldM c h k1_))] [] 2 ?_
       refine AWp.ret ?_
       have hL1_ : venCheckM_L1 c h = some (fieldM c h k1_) := scanN_some hs1_ (by omega) (by unfold venCheckM_B1; (try rw [h7]); (try rw [h8]); first | done | kernel_rfl)
       exact leafR (r := vi (fieldM c h k1_)) (by unfold venCheckM; (try rw [h1]); (try rw [h3]); (try rw [h5]); (try rw [hL1_]); first | done | kernel_rfl)
      ·
       refine AWp.skip ?_
       refine AWp.he [.cast (vi (IntKind.i64.wrap (((k1_ : Nat) : Int) + 1))) (vi ((k1_ + 1 : Nat) : Int)) (congrArg vi (wrap_nat (by omega))), .run 1] 39 [(2, .ptr 0 0), (3, .ptr 1 0), (27, vi ((c.fields.length : Nat) : Int)), (28, vi ((k1_ + 1 : Nat) : Int))] [(1, .box 28 (avs (Home.cells h))), (0, .box 24 (avs (Codec.cells c)))] 2 ?_
       exact ⟨k1_ + 1, ⟨by omega, scanN_none hs1_ (by omega) (by unfold venCheckM_B1; (try rw [h7]); (try rw [h8]); first | done | kernel_rfl)⟩, by omega, leG⟩
     ·
      have h7' := of_decide_eq_false h7
      refine AWp.exit ?_
      have hL1_ : venCheckM_L1 c h = none := scanN_end hs1_ (by omega)
      refine AWp.hz [.run 1] 39 [(4, vi 0)] [] 2 ?_
      refine AWp.ret ?_
      exact leafR (r := vi 0) (by unfold venCheckM; (try rw [h1]); (try rw [h3]); (try rw [h5]); (try rw [hL1_]); first | done | kernel_rfl)
def codeM_B1 (l : List FieldV) (n : Int) (k1_ : Nat) : Option Int :=
  (match (l)[k1_]? with | some e1_ => (bif (e1_.code == n) then some ((k1_ : Nat) : Int) else none) | none => none)
def codeM_L1 (l : List FieldV) (n : Int) : Option Int := scanN (codeM_B1 l n) 0 l.length
def codeM (l : List FieldV) (n : Int) : Int :=
  (codeM_L1 l n).getD (-1)
theorem codeM_ok (l : List FieldV) (n : Int) :
 ACalls Try.prog G_ 22 [.rv (.sl 6 (l.map FieldV.cells)), vi n] [] 0 (fun r τ => r = vi (codeM l n) ∧ τ = []) := by
 refine ACalls.body Try.func22 rfl 20 [(0, .rv (.sl 6 (l.map FieldV.cells))), (1, vi n)] ?_
 refine AWp.hz [.run 1] 20 [(0, .rv (.sl 6 (l.map FieldV.cells))), (1, vi n)] [] 0 ?_
 refine AWp.seq ?_
 refine AWp.hz [.run 1] 20 [(0, .rv (.sl 6 (l.map FieldV.cells))), (1, vi n), (5, vi 0)] [] 0 ?_
 refine AWp.block ?_
 refine AWp.loop (ι := Nat) (fun k1_ => Z 20 [(0, .rv (.sl 6 (l.map FieldV.cells))), (1, vi n), (5, vi ((k1_ : Nat) : Int))] [] 0) (fun k1_ => k1_ ≤ l.length ∧ codeM_L1 l n = scanN (codeM_B1 l n) k1_ (l.length - k1_)) (fun k1_ => l.length - k1_) 0 leZ ⟨Nat.zero_le _, rfl⟩ ?_
 intro k1_ ⟨hk1_, hs1_⟩
 refine AWp.seq ?_
 refine AWp.hzl [.run 2, .len FieldV.cells l 6, .run 1] 20 [(0, .rv (.sl 6 (l.map FieldV.cells))), (1, vi n), (5, vi ((k1_ : Nat) : Int)), (9, vb (decide (((k1_ : Nat) : Int) < ((l.length : Nat) : Int))))] [] 0 (fun hl => ?_)
 obtain ⟨hn1, -⟩ := hl
 refine AWp.cnd (decide (((k1_ : Nat) : Int) < ((l.length : Nat) : Int))) (fun h2 => ?_) (fun h2 => ?_)
 ·
  have h2' := of_decide_eq_true h2
  refine AWp.skip ?_
  refine AWp.seq ?_
  refine AWp.block ?_
  obtain ⟨e1_, he1_⟩ := getEx (l := l) (j := k1_) (by omega)
  refine AWp.hz [.run 2, .idx FieldV.cells l 6 k1_ e1_ he1_, .run 4] 20 [(0, .rv (.sl 6 (l.map FieldV.cells))), (1, vi n), (5, vi ((k1_ : Nat) : Int)), (18, vb (e1_.code == n))] [] 0 ?_
  refine AWp.cnd ((e1_.code == n)) (fun h3 => ?_) (fun h3 => ?_)
  ·
   refine AWp.hz [.run 2] 20 [(4, vi ((k1_ : Nat) : Int))] [] 0 ?_
   refine AWp.ret ?_
   have hL1_ : codeM_L1 l n = some ((k1_ : Nat) : Int) := scanN_some hs1_ (by omega) (by unfold codeM_B1; (try simp only [he1_]); (try rw [h2]); (try rw [h3]); first | done | kernel_rfl)
   exact leafR (r := vi ((k1_ : Nat) : Int)) (by unfold codeM; (try rw [hL1_]); first | done | kernel_rfl)
  ·
   refine AWp.skip ?_
   refine AWp.he [.run 1, .cast (vi (IntKind.i64.wrap (((k1_ : Nat) : Int) + 1))) (vi ((k1_ + 1 : Nat) : Int)) (congrArg vi (wrap_nat (by omega))), .run 1] 20 [(0, .rv (.sl 6 (l.map FieldV.cells))), (1, vi n), (5, vi ((k1_ + 1 : Nat) : Int))] [] 0 ?_
   exact ⟨k1_ + 1, ⟨by omega, scanN_none hs1_ (by omega) (by unfold codeM_B1; (try simp only [he1_]); (try rw [h2]); (try rw [h3]); first | done | kernel_rfl)⟩, by omega, leG⟩
 ·
  have h2' := of_decide_eq_false h2
  refine AWp.exit ?_
  have hL1_ : codeM_L1 l n = none := scanN_end hs1_ (by omega)
  refine AWp.hz [.run 1] 20 [(4, vi (-1))] [] 0 ?_
  refine AWp.ret ?_
  exact leafR (r := vi (-1)) (by unfold codeM; (try rw [hL1_]); first | done | kernel_rfl)
def rvenCheckM_B1 (c : Codec) (h : Home) (k1_ : Nat) : Option Int :=
  (match (c.fields)[k1_]? with | some e1_ => (bif ((decide (e1_.code < 0) || (decide (e1_.code > 255) || (decide (e1_.scale < 0) || (decide (e1_.scale > 1000) || decide (e1_.offset < -100000))))) || decide (e1_.offset > 100000)) then some 2 else (bif decide (codeM (c.fields.take k1_) e1_.code ≥ 0) then some 9 else (bif !((rvattrM h e1_.cluster e1_.attr).2) then some 8 else (bif (((rvattrM h e1_.cluster e1_.attr).1).kind == 4) then some 11 else (bif !(shapeM e1_ ((rvattrM h e1_.cluster e1_.attr).1)) then some 4 else none))))) | none => none)
def rvenCheckM_L1 (c : Codec) (h : Home) : Option Int := scanN (rvenCheckM_B1 c h) 0 c.fields.length
def rvenCheckM (c : Codec) (h : Home) : Int :=
  (bif (rdevCheckM h != 0) then rdevCheckM h else (bif (decide (c.vendor < 0) || decide (c.vendor > 255)) then 2 else (bif decide (((c.fields.length : Nat) : Int) > 32) then 3 else (rvenCheckM_L1 c h).getD 0)))
theorem rvenCheckM_ok (c : Codec) (h : Home) :
 ACalls Try.prog G_ 11 [.agg (avs (Codec.cells c)), .agg (avs (Home.cells h))] [] 0 (fun r τ => r = vi (rvenCheckM c h) ∧ τ = []) := by
 refine ACalls.body Try.func11 rfl 92 [(0, .agg (avs (Codec.cells c))), (1, .agg (avs (Home.cells h)))] ?_
 refine AWp.hz [.run 3] 92 [(2, .ptr 0 0), (3, .ptr 1 0)] [(1, .box 28 (avs (Home.cells h))), (0, .box 24 (avs (Codec.cells c)))] 2 ?_
 refine AWp.seq ?_
 refine AWp.hz [.run 1, .call 21 [.agg (avs (Home.cells h))] (vi (rdevCheckM h)) [] 0 (rdevCheckM_ok h), .run 1] 92 [(2, .ptr 0 0), (3, .ptr 1 0), (11, vb (rdevCheckM h != 0))] [(1, .box 28 (avs (Home.cells h))), (0, .box 24 (avs (Codec.cells c)))] 2 ?_
 refine AWp.cnd ((rdevCheckM h != 0)) (fun h1 => ?_) (fun h1 => ?_)
 ·
  refine AWp.hz [.run 1, .call 21 [.agg (avs (Home.cells h))] (vi (rdevCheckM h)) [] 0 (rdevCheckM_ok h), .run 1] 92 [(4, vi (rdevCheckM h))] [] 2 ?_
  refine AWp.ret ?_
  exact leafR (r := vi (rdevCheckM h)) (by unfold rvenCheckM; (try rw [h1]); first | done | kernel_rfl)
 ·
  refine AWp.skip ?_
  refine AWp.seq ?_
  refine AWp.join (Z 92 [(2, .ptr 0 0), (3, .ptr 1 0), (21, vb (decide (c.vendor < 0) || decide (c.vendor > 255)))] [(1, .box 28 (avs (Home.cells h))), (0, .box 24 (avs (Codec.cells c)))] 2) ?_ ?_
  ·
   refine AWp.region ?_
   refine AOps.hg [.run 4] (decide (c.vendor < 0)) 92 (fun b_ => [(2, .ptr 0 0), (3, .ptr 1 0), (17, vb b_)]) [(1, .box 28 (avs (Home.cells h))), (0, .box 24 (avs (Codec.cells c)))] 2 (fun hg2 => ?_) (fun hg2 => ?_)
   ·
    have hg2' := of_decide_eq_true hg2
    refine AOps.he [.run 4] 92 [(2, .ptr 0 0), (3, .ptr 1 0), (21, vb true)] [(1, .box 28 (avs (Home.cells h))), (0, .box 24 (avs (Codec.cells c)))] 2 ?_
    exact leZ (by rw [hg2]; first | done | kernel_rfl)
   ·
    have hg2' := of_decide_eq_false hg2
    refine AOps.he [.run 4] 92 [(2, .ptr 0 0), (3, .ptr 1 0), (21, vb (decide (c.vendor > 255)))] [(1, .box 28 (avs (Home.cells h))), (0, .box 24 (avs (Codec.cells c)))] 2 ?_
    exact leZ (by rw [hg2]; first | done | kernel_rfl)
  ·
   refine AWp.cnd ((decide (c.vendor < 0) || decide (c.vendor > 255))) (fun h3 => ?_) (fun h3 => ?_)
   ·
    refine AWp.hz [.run 1] 92 [(4, vi 2)] [] 2 ?_
    refine AWp.ret ?_
    exact leafR (r := vi 2) (by unfold rvenCheckM; (try rw [h1]); (try rw [h3]); first | done | kernel_rfl)
   ·
    have h3l := or_fl h3
    have h3l' := of_decide_eq_false h3l
    have h3r := or_fr h3
    have h3r' := of_decide_eq_false h3r
    refine AWp.skip ?_
    refine AWp.seq ?_
    refine AWp.hzl [.run 2, .len FieldV.cells c.fields 6, .run 1] 92 [(2, .ptr 0 0), (3, .ptr 1 0), (25, vb (decide (((c.fields.length : Nat) : Int) > 32)))] [(1, .box 28 (avs (Home.cells h))), (0, .box 24 (avs (Codec.cells c)))] 2 (fun hl => ?_)
    obtain ⟨hn4, -⟩ := hl
    refine AWp.cnd (decide (((c.fields.length : Nat) : Int) > 32)) (fun h5 => ?_) (fun h5 => ?_)
    ·
     have h5' := of_decide_eq_true h5
     refine AWp.hz [.run 1] 92 [(4, vi 3)] [] 2 ?_
     refine AWp.ret ?_
     exact leafR (r := vi 3) (by unfold rvenCheckM; (try rw [h1]); (try rw [h3]); (try rw [h5]); first | done | kernel_rfl)
    ·
     have h5' := of_decide_eq_false h5
     refine AWp.skip ?_
     refine AWp.seq ?_
     refine AWp.hz [.run 1] 92 [(2, .ptr 0 0), (3, .ptr 1 0), (5, vi 0)] [(1, .box 28 (avs (Home.cells h))), (0, .box 24 (avs (Codec.cells c)))] 2 ?_
     refine AWp.block ?_
     refine AWp.loop (ι := Nat) (fun k1_ => Z 92 [(2, .ptr 0 0), (3, .ptr 1 0), (5, vi ((k1_ : Nat) : Int))] [(1, .box 28 (avs (Home.cells h))), (0, .box 24 (avs (Codec.cells c)))] 2) (fun k1_ => k1_ ≤ c.fields.length ∧ rvenCheckM_L1 c h = scanN (rvenCheckM_B1 c h) k1_ (c.fields.length - k1_)) (fun k1_ => c.fields.length - k1_) 0 leZ ⟨Nat.zero_le _, rfl⟩ ?_
     intro k1_ ⟨hk1_, hs1_⟩
     refine AWp.seq ?_
     refine AWp.hzl [.run 3, .len FieldV.cells c.fields 6, .run 1] 92 [(2, .ptr 0 0), (3, .ptr 1 0), (5, vi ((k1_ : Nat) : Int)), (30, vb (decide (((k1_ : Nat) : Int) < ((c.fields.length : Nat) : Int))))] [(1, .box 28 (avs (Home.cells h))), (0, .box 24 (avs (Codec.cells c)))] 2 (fun hl => ?_)
     obtain ⟨hn6, -⟩ := hl
     refine AWp.cnd (decide (((k1_ : Nat) : Int) < ((c.fields.length : Nat) : Int))) (fun h7 => ?_) (fun h7 => ?_)
     ·
      have h7' := of_decide_eq_true h7
      refine AWp.skip ?_
      refine AWp.seq ?_
      refine AWp.block ?_
      obtain ⟨e1_, he1_⟩ := getEx (l := c.fields) (j := k1_) (by omega)
      refine AWp.hz [.run 3, .idx FieldV.cells c.fields 6 k1_ e1_ he1_, .run 3] 92 [(2, .ptr 0 0), (3, .ptr 1 0), (5, vi ((k1_ : Nat) : Int)), (6, .ptr 2 0)] [(2, .box 64 (avs (FieldV.cells e1_))), (1, .box 28 (avs (Home.cells h))), (0, .box 24 (avs (Codec.cells c)))] 3 ?_
      refine AWp.seq ?_
      refine AWp.join (Z 92 [(2, .ptr 0 0), (3, .ptr 1 0), (5, vi ((k1_ : Nat) : Int)), (6, .ptr 2 0), (65, vb ((decide (e1_.code < 0) || (decide (e1_.code > 255) || (decide (e1_.scale < 0) || (decide (e1_.scale > 1000) || decide (e1_.offset < -100000))))) || decide (e1_.offset > 100000)))] [(2, .box 64 (avs (FieldV.cells e1_))), (1, .box 28 (avs (Home.cells h))), (0, .box 24 (avs (Codec.cells c)))] 3) ?_ ?_
      ·
       refine AWp.region ?_
       refine AOps.hg [.run 4] (decide (e1_.code < 0)) 92 (fun b_ => [(2, .ptr 0 0), (3, .ptr 1 0), (5, vi ((k1_ : Nat) : Int)), (6, .ptr 2 0), (41, vb b_)]) [(2, .box 64 (avs (FieldV.cells e1_))), (1, .box 28 (avs (Home.cells h))), (0, .box 24 (avs (Codec.cells c)))] 3 (fun hg8 => ?_) (fun hg8 => ?_)
       ·
        have hg8' := of_decide_eq_true hg8
        refine AOps.he [.run 24] 92 [(2, .ptr 0 0), (3, .ptr 1 0), (5, vi ((k1_ : Nat) : Int)), (6, .ptr 2 0), (65, vb true)] [(2, .box 64 (avs (FieldV.cells e1_))), (1, .box 28 (avs (Home.cells h))), (0, .box 24 (avs (Codec.cells c)))] 3 ?_
        exact leZ (by rw [hg8]; first | done | kernel_rfl)
       ·
        have hg8' := of_decide_eq_false hg8
        refine AOps.hg [.run 5] (decide (e1_.code > 255)) 92 (fun b_ => [(2, .ptr 0 0), (3, .ptr 1 0), (5, vi ((k1_ : Nat) : Int)), (6, .ptr 2 0), (46, vb b_)]) [(2, .box 64 (avs (FieldV.cells e1_))), (1, .box 28 (avs (Home.cells h))), (0, .box 24 (avs (Codec.cells c)))] 3 (fun hg9 => ?_) (fun hg9 => ?_)
        ·
         have hg9' := of_decide_eq_true hg9
         refine AOps.he [.run 19] 92 [(2, .ptr 0 0), (3, .ptr 1 0), (5, vi ((k1_ : Nat) : Int)), (6, .ptr 2 0), (65, vb true)] [(2, .box 64 (avs (FieldV.cells e1_))), (1, .box 28 (avs (Home.cells h))), (0, .box 24 (avs (Codec.cells c)))] 3 ?_
         exact leZ (by rw [hg8, hg9]; first | done | kernel_rfl)
        ·
         have hg9' := of_decide_eq_false hg9
         refine AOps.hg [.run 5] (decide (e1_.scale < 0)) 92 (fun b_ => [(2, .ptr 0 0), (3, .ptr 1 0), (5, vi ((k1_ : Nat) : Int)), (6, .ptr 2 0), (51, vb b_)]) [(2, .box 64 (avs (FieldV.cells e1_))), (1, .box 28 (avs (Home.cells h))), (0, .box 24 (avs (Codec.cells c)))] 3 (fun hg10 => ?_) (fun hg10 => ?_)
         ·
          have hg10' := of_decide_eq_true hg10
          refine AOps.he [.run 14] 92 [(2, .ptr 0 0), (3, .ptr 1 0), (5, vi ((k1_ : Nat) : Int)), (6, .ptr 2 0), (65, vb true)] [(2, .box 64 (avs (FieldV.cells e1_))), (1, .box 28 (avs (Home.cells h))), (0, .box 24 (avs (Codec.cells c)))] 3 ?_
          exact leZ (by rw [hg8, hg9, hg10]; first | done | kernel_rfl)
         ·
          have hg10' := of_decide_eq_false hg10
          refine AOps.hg [.run 5] (decide (e1_.scale > 1000)) 92 (fun b_ => [(2, .ptr 0 0), (3, .ptr 1 0), (5, vi ((k1_ : Nat) : Int)), (6, .ptr 2 0), (56, vb b_)]) [(2, .box 64 (avs (FieldV.cells e1_))), (1, .box 28 (avs (Home.cells h))), (0, .box 24 (avs (Codec.cells c)))] 3 (fun hg11 => ?_) (fun hg11 => ?_)
          ·
           have hg11' := of_decide_eq_true hg11
           refine AOps.he [.run 9] 92 [(2, .ptr 0 0), (3, .ptr 1 0), (5, vi ((k1_ : Nat) : Int)), (6, .ptr 2 0), (65, vb true)] [(2, .box 64 (avs (FieldV.cells e1_))), (1, .box 28 (avs (Home.cells h))), (0, .box 24 (avs (Codec.cells c)))] 3 ?_
           exact leZ (by rw [hg8, hg9, hg10, hg11]; first | done | kernel_rfl)
          ·
           have hg11' := of_decide_eq_false hg11
           refine AOps.hg [.run 5] (decide (e1_.offset < -100000)) 92 (fun b_ => [(2, .ptr 0 0), (3, .ptr 1 0), (5, vi ((k1_ : Nat) : Int)), (6, .ptr 2 0), (61, vb b_)]) [(2, .box 64 (avs (FieldV.cells e1_))), (1, .box 28 (avs (Home.cells h))), (0, .box 24 (avs (Codec.cells c)))] 3 (fun hg12 => ?_) (fun hg12 => ?_)
           ·
            have hg12' := of_decide_eq_true hg12
            refine AOps.he [.run 4] 92 [(2, .ptr 0 0), (3, .ptr 1 0), (5, vi ((k1_ : Nat) : Int)), (6, .ptr 2 0), (65, vb true)] [(2, .box 64 (avs (FieldV.cells e1_))), (1, .box 28 (avs (Home.cells h))), (0, .box 24 (avs (Codec.cells c)))] 3 ?_
            exact leZ (by rw [hg8, hg9, hg10, hg11, hg12]; first | done | kernel_rfl)
           ·
            have hg12' := of_decide_eq_false hg12
            refine AOps.he [.run 4] 92 [(2, .ptr 0 0), (3, .ptr 1 0), (5, vi ((k1_ : Nat) : Int)), (6, .ptr 2 0), (65, vb (decide (e1_.offset > 100000)))] [(2, .box 64 (avs (FieldV.cells e1_))), (1, .box 28 (avs (Home.cells h))), (0, .box 24 (avs (Codec.cells c)))] 3 ?_
            exact leZ (by rw [hg8, hg9, hg10, hg11, hg12]; first | done | kernel_rfl)
      ·
       refine AWp.cnd (((decide (e1_.code < 0) || (decide (e1_.code > 255) || (decide (e1_.scale < 0) || (decide (e1_.scale > 1000) || decide (e1_.offset < -100000))))) || decide (e1_.offset > 100000))) (fun h13 => ?_) (fun h13 => ?_)
       ·
        refine AWp.hz [.run 1] 92 [(4, vi 2)] [] 3 ?_
        refine AWp.ret ?_
        have hL1_ : rvenCheckM_L1 c h = some 2 := scanN_some hs1_ (by omega) (by unfold rvenCheckM_B1; (try simp only [he1_]); (try rw [h7]); (try rw [h13]); first | done | kernel_rfl)
        exact leafR (r := vi 2) (by unfold rvenCheckM; (try rw [h1]); (try rw [h3]); (try rw [h5]); (try rw [hL1_]); first | done | kernel_rfl)
       ·
        have h13l := or_fl h13
        have h13ll := or_fl h13l
        have h13ll' := of_decide_eq_false h13ll
        have h13lr := or_fr h13l
        have h13lrl := or_fl h13lr
        have h13lrl' := of_decide_eq_false h13lrl
        have h13lrr := or_fr h13lr
        have h13lrrl := or_fl h13lrr
        have h13lrrl' := of_decide_eq_false h13lrrl
        have h13lrrr := or_fr h13lrr
        have h13lrrrl := or_fl h13lrrr
        have h13lrrrl' := of_decide_eq_false h13lrrrl
        have h13lrrrr := or_fr h13lrrr
        have h13lrrrr' := of_decide_eq_false h13lrrrr
        have h13r := or_fr h13
        have h13r' := of_decide_eq_false h13r
        refine AWp.skip ?_
        refine AWp.seq ?_
        refine AWp.dz [.ptr 0 1, .rv (.sl 6 (c.fields.map FieldV.cells)), vi ((k1_ : Nat) : Int), .rv (.sl 6 ((c.fields.take k1_).map FieldV.cells)), .ptr 2 2, vi e1_.code, vi (codeM (c.fields.take k1_) e1_.code), vb (decide (codeM (c.fields.take k1_) e1_.code ≥ 0))] 92 [(2, .ptr 0 0), (3, .ptr 1 0), (5, vi ((k1_ : Nat) : Int)), (6, .ptr 2 0), (73, vb (decide (codeM (c.fields.take k1_) e1_.code ≥ 0)))] [(2, .box 64 (avs (FieldV.cells e1_))), (1, .box 28 (avs (Home.cells h))), (0, .box 24 (avs (Codec.cells c)))] 3 ?_ ?_
        ·
         refine DSteps.cons (DStep.va) ?_
         refine DSteps.cons (DStep.va) ?_
         refine DSteps.cons (DStep.va) ?_
         refine DSteps.cons (DStep.vs (by kernel_rfl) (R_sliceM FieldV.cells c.fields 6 k1_ rfl (by kernel_rfl) (by kernel_rfl) (by kernel_rfl) (by omega))) ?_
         refine DSteps.cons (DStep.va) ?_
         refine DSteps.cons (DStep.va) ?_
         refine DSteps.cons (DStep.call rfl (by kernel_rfl) (by kernel_rfl) (by kernel_rfl) (args := [.rv (.sl 6 ((c.fields.take k1_).map FieldV.cells)), vi e1_.code]) (by kernel_rfl) (by kernel_rfl) (codeM_ok (c.fields.take k1_) e1_.code) (by kernel_rfl) (Nat.le_of_ble_eq_true (by kernel_rfl))) ?_
         refine DSteps.cons (DStep.va) ?_
         exact DSteps.nl
        refine AWp.cnd (decide (codeM (c.fields.take k1_) e1_.code ≥ 0)) (fun h14 => ?_) (fun h14 => ?_)
        ·
         have h14' := of_decide_eq_true h14
         refine AWp.hz [.run 1] 92 [(4, vi 9)] [] 3 ?_
         refine AWp.ret ?_
         have hL1_ : rvenCheckM_L1 c h = some 9 := scanN_some hs1_ (by omega) (by unfold rvenCheckM_B1; (try simp only [he1_]); (try rw [h7]); (try rw [h13]); (try rw [h14]); first | done | kernel_rfl)
         exact leafR (r := vi 9) (by unfold rvenCheckM; (try rw [h1]); (try rw [h3]); (try rw [h5]); (try rw [hL1_]); first | done | kernel_rfl)
        ·
         have h14' := of_decide_eq_false h14
         refine AWp.skip ?_
         refine AWp.hz [.run 5, .call 23 [.agg (avs (Home.cells h)), vs e1_.cluster, vs e1_.attr] (.tuple [.agg (avs (Attr.cells ((rvattrM h e1_.cluster e1_.attr).1))), vb ((rvattrM h e1_.cluster e1_.attr).2)]) [] 0 (rvattrM_ok h e1_.cluster e1_.attr), .run 6] 92 [(2, .ptr 0 0), (3, .ptr 1 0), (5, vi ((k1_ : Nat) : Int)), (6, .ptr 2 0), (7, .ptr 3 0), (8, vb ((rvattrM h e1_.cluster e1_.attr).2))] [(3, .box 51 (avs (Attr.cells ((rvattrM h e1_.cluster e1_.attr).1)))), (2, .box 64 (avs (FieldV.cells e1_))), (1, .box 28 (avs (Home.cells h))), (0, .box 24 (avs (Codec.cells c)))] 4 ?_
         refine AWp.seq ?_
         refine AWp.hz [.run 2] 92 [(2, .ptr 0 0), (3, .ptr 1 0), (5, vi ((k1_ : Nat) : Int)), (6, .ptr 2 0), (7, .ptr 3 0), (84, vb (!((rvattrM h e1_.cluster e1_.attr).2)))] [(3, .box 51 (avs (Attr.cells ((rvattrM h e1_.cluster e1_.attr).1)))), (2, .box 64 (avs (FieldV.cells e1_))), (1, .box 28 (avs (Home.cells h))), (0, .box 24 (avs (Codec.cells c)))] 4 ?_
         refine AWp.cnd (!((rvattrM h e1_.cluster e1_.attr).2)) (fun h15 => ?_) (fun h15 => ?_)
         ·
          refine AWp.hz [.run 1] 92 [(4, vi 8)] [] 4 ?_
          refine AWp.ret ?_
          have hL1_ : rvenCheckM_L1 c h = some 8 := scanN_some hs1_ (by omega) (by unfold rvenCheckM_B1; (try simp only [he1_]); (try rw [h7]); (try rw [h13]); (try rw [h14]); (try rw [h15]); first | done | kernel_rfl)
          exact leafR (r := vi 8) (by unfold rvenCheckM; (try rw [h1]); (try rw [h3]); (try rw [h5]); (try rw [hL1_]); first | done | kernel_rfl)
         ·
          refine AWp.skip ?_
          refine AWp.seq ?_
          refine AWp.hz [.run 3] 92 [(2, .ptr 0 0), (3, .ptr 1 0), (5, vi ((k1_ : Nat) : Int)), (6, .ptr 2 0), (7, .ptr 3 0), (87, vb (((rvattrM h e1_.cluster e1_.attr).1).kind == 4))] [(3, .box 51 (avs (Attr.cells ((rvattrM h e1_.cluster e1_.attr).1)))), (2, .box 64 (avs (FieldV.cells e1_))), (1, .box 28 (avs (Home.cells h))), (0, .box 24 (avs (Codec.cells c)))] 4 ?_
          refine AWp.cnd ((((rvattrM h e1_.cluster e1_.attr).1).kind == 4)) (fun h16 => ?_) (fun h16 => ?_)
          ·
           refine AWp.hz [.run 1] 92 [(4, vi 11)] [] 4 ?_
           refine AWp.ret ?_
           have hL1_ : rvenCheckM_L1 c h = some 11 := scanN_some hs1_ (by omega) (by unfold rvenCheckM_B1; (try simp only [he1_]); (try rw [h7]); (try rw [h13]); (try rw [h14]); (try rw [h15]); (try rw [h16]); first | done | kernel_rfl)
           exact leafR (r := vi 11) (by unfold rvenCheckM; (try rw [h1]); (try rw [h3]); (try rw [h5]); (try rw [hL1_]); first | done | kernel_rfl)
          ·
           refine AWp.skip ?_
           refine AWp.hz [.run 2, .call 24 [.agg (avs (FieldV.cells e1_)), .agg (avs (Attr.cells ((rvattrM h e1_.cluster e1_.attr).1)))] (vb (shapeM e1_ ((rvattrM h e1_.cluster e1_.attr).1))) [] 0 (shapeM_ok e1_ ((rvattrM h e1_.cluster e1_.attr).1)), .run 1] 92 [(2, .ptr 0 0), (3, .ptr 1 0), (5, vi ((k1_ : Nat) : Int)), (91, vb (!(shapeM e1_ ((rvattrM h e1_.cluster e1_.attr).1))))] [(1, .box 28 (avs (Home.cells h))), (0, .box 24 (avs (Codec.cells c)))] 4 ?_
           refine AWp.cnd (!(shapeM e1_ ((rvattrM h e1_.cluster e1_.attr).1))) (fun h17 => ?_) (fun h17 => ?_)
           ·
            refine AWp.hz [.run 1] 92 [(4, vi 4)] [] 4 ?_
            refine AWp.ret ?_
            have hL1_ : rvenCheckM_L1 c h = some 4 := scanN_some hs1_ (by omega) (by unfold rvenCheckM_B1; (try simp only [he1_]); (try rw [h7]); (try rw [h13]); (try rw [h14]); (try rw [h15]); (try rw [h16]); (try rw [h17]); first | done | kernel_rfl)
            exact leafR (r := vi 4) (by unfold rvenCheckM; (try rw [h1]); (try rw [h3]); (try rw [h5]); (try rw [hL1_]); first | done | kernel_rfl)
           ·
            refine AWp.skip ?_
            refine AWp.he [.run 1, .cast (vi (IntKind.i64.wrap (((k1_ : Nat) : Int) + 1))) (vi ((k1_ + 1 : Nat) : Int)) (congrArg vi (wrap_nat (by omega))), .run 1] 92 [(2, .ptr 0 0), (3, .ptr 1 0), (5, vi ((k1_ + 1 : Nat) : Int))] [(1, .box 28 (avs (Home.cells h))), (0, .box 24 (avs (Codec.cells c)))] 4 ?_
            exact ⟨k1_ + 1, ⟨by omega, scanN_none hs1_ (by omega) (by unfold rvenCheckM_B1; (try simp only [he1_]); (try rw [h7]); (try rw [h13]); (try rw [h14]); (try rw [h15]); (try rw [h16]); (try rw [h17]); first | done | kernel_rfl)⟩, by omega, leG⟩
     ·
      have h7' := of_decide_eq_false h7
      refine AWp.exit ?_
      have hL1_ : rvenCheckM_L1 c h = none := scanN_end hs1_ (by omega)
      refine AWp.hz [.run 1] 92 [(4, vi 0)] [] 2 ?_
      refine AWp.ret ?_
      exact leafR (r := vi 0) (by unfold rvenCheckM; (try rw [h1]); (try rw [h3]); (try rw [h5]); (try rw [hL1_]); first | done | kernel_rfl)
def oursM (c : Codec) (h : Home) (n : Int) : Bool :=
  (decide (atM h n ≥ 0) && (match (h.devices)[(atM h n).toNat]? with | some e1_ => (e1_.vendor == c.vendor) | none => false))
theorem oursM_ok (c : Codec) (h : Home) (n : Int) :
 ACalls Try.prog G_ 29 [.agg (avs (Codec.cells c)), .agg (avs (Home.cells h)), vi n] [] 0 (fun r τ => r = vb (oursM c h n) ∧ τ = []) := by
 refine ACalls.body Try.func29 rfl 24 [(0, .agg (avs (Codec.cells c))), (1, .agg (avs (Home.cells h))), (2, vi n)] ?_
 refine AWp.hz [.run 3] 24 [(2, vi n), (3, .ptr 0 0), (4, .ptr 1 0)] [(1, .box 28 (avs (Home.cells h))), (0, .box 24 (avs (Codec.cells c)))] 2 ?_
 refine AWp.hz [.run 2, .call 56 [.agg (avs (Home.cells h)), vi n] (vi (atM h n)) [] 0 (atM_ok h n), .run 1] 24 [(3, .ptr 0 0), (4, .ptr 1 0), (7, vi (atM h n))] [(1, .box 28 (avs (Home.cells h))), (0, .box 24 (avs (Codec.cells c)))] 2 ?_
 refine AWp.split (decide (atM h n ≥ 0)) (fun h1 => ?_) (fun h1 => ?_)
 ·
  have h1' := of_decide_eq_true h1
  have := atM_lt h n
  have ht2 : (atM h n) = (((atM h n).toNat : Nat) : Int) := (Int.toNat_of_nonneg (by omega)).symm
  obtain ⟨e1_, he1_⟩ := getEx (l := h.devices) (j := (atM h n).toNat) (by omega)
  refine AWp.dz [vi (atM h n), vb true, vb true, .ptr 1 1, .rv (.sl 7 (h.devices.map Dev.cells)), vi (((atM h n).toNat : Nat) : Int), .rv (.ptr (Dev.cells e1_)), .rv (.ptr [.v (.int .i64 e1_.vendor), .v (.bool e1_.sleepy), .v (.int .i64 e1_.poll), .v (.string e1_.room), .sl 1 (e1_.clusters.map strC)]), vi e1_.vendor, .ptr 0 0, vi c.vendor, vb (e1_.vendor == c.vendor), vb (e1_.vendor == c.vendor), vb (e1_.vendor == c.vendor)] 24 [(6, vb (e1_.vendor == c.vendor))] [] 2 ?_ ?_
  ·
   refine DSteps.cons (DStep.va) ?_
   refine DSteps.cons ((DStep.val (v := vb (decide (atM h n ≥ 0))) (by kernel_rfl) (by kernel_rfl)).cast (congrArg vb h1)) ?_
   refine DSteps.cons (DStep.va) ?_
   refine DSteps.cons (DStep.va) ?_
   refine DSteps.cons (DStep.va) ?_
   refine DSteps.cons ((DStep.val (v := vi (atM h n)) (by kernel_rfl) (by kernel_rfl)).cast (congrArg vi ht2)) ?_
   refine DSteps.cons (DStep.vs (by kernel_rfl) (R_indexAddrM Dev.cells h.devices 7 ((atM h n).toNat) rfl (by kernel_rfl) (by kernel_rfl) (by kernel_rfl) he1_)) ?_
   refine DSteps.cons (DStep.va) ?_
   refine DSteps.cons (DStep.va) ?_
   refine DSteps.cons (DStep.va) ?_
   refine DSteps.cons (DStep.va) ?_
   refine DSteps.cons (DStep.va) ?_
   refine DSteps.cons (DStep.va) ?_
   refine DSteps.cons (DStep.va) ?_
   exact DSteps.nl
  refine AWp.ret ?_
  exact leafR (r := vb (e1_.vendor == c.vendor)) (by unfold oursM; (try simp only [he1_]); (try rw [h1]); first | done | kernel_rfl)
 ·
  have h1' := of_decide_eq_false h1
  refine AWp.dz [vi (atM h n), vb false, vb false, .tuple [], .tuple [], .tuple [], .tuple [], .tuple [], .tuple [], .tuple [], .tuple [], .tuple [], vb false, vb false] 24 [(6, vb false)] [] 2 ?_ ?_
  ·
   refine DSteps.cons (DStep.va) ?_
   refine DSteps.cons ((DStep.val (v := vb (decide (atM h n ≥ 0))) (by kernel_rfl) (by kernel_rfl)).cast (congrArg vb h1)) ?_
   refine DSteps.cons (DStep.va) ?_
   refine DSteps.cons (DStep.skip (by kernel_rfl)) ?_
   refine DSteps.cons (DStep.skip (by kernel_rfl)) ?_
   refine DSteps.cons (DStep.skip (by kernel_rfl)) ?_
   refine DSteps.cons (DStep.skip (by kernel_rfl)) ?_
   refine DSteps.cons (DStep.skip (by kernel_rfl)) ?_
   refine DSteps.cons (DStep.skip (by kernel_rfl)) ?_
   refine DSteps.cons (DStep.skip (by kernel_rfl)) ?_
   refine DSteps.cons (DStep.skip (by kernel_rfl)) ?_
   refine DSteps.cons (DStep.skip (by kernel_rfl)) ?_
   refine DSteps.cons (DStep.va) ?_
   refine DSteps.cons (DStep.va) ?_
   exact DSteps.nl
  refine AWp.ret ?_
  exact leafR (r := vb false) (by unfold oursM; (try rw [h1]); first | done | kernel_rfl)
def rvalueM (f : FieldV) (a : Attr) (n : Int) : Val :=
  (bif (a.kind == 1) then (⟨1, (bif ((bif decide (n > 32767) then IntKind.i64.wrap (n - 65536) else n) != 0) then 1 else (bif decide (n > 32767) then IntKind.i64.wrap (n - 65536) else n)), ⟨#[]⟩⟩ : Val) else (bif (a.kind == 2) then (⟨2, IntKind.i64.wrap (rfloorM (IntKind.i64.wrap ((bif decide (n > 32767) then IntKind.i64.wrap (n - 65536) else n) * f.scale)) 10 + f.offset), ⟨#[]⟩⟩ : Val) else (⟨3, rindexM f.map n, ⟨#[]⟩⟩ : Val)))
theorem rvalueM_ok (f : FieldV) (a : Attr) (n : Int) :
 ACalls Try.prog G_ 31 [.agg (avs (FieldV.cells f)), .agg (avs (Attr.cells a)), vi n] [] 0 (fun r τ => r = .agg (avs (Val.cells (rvalueM f a n))) ∧ τ = []) := by
 refine ACalls.body Try.func31 rfl 37 [(0, .agg (avs (FieldV.cells f))), (1, .agg (avs (Attr.cells a))), (2, vi n)] ?_
 refine AWp.hz [.run 3] 37 [(2, vi n), (3, .ptr 0 0), (4, .ptr 1 0), (6, .ptr 2 0)] [(2, .box 46 [vi 0, vi 0, vs (⟨#[]⟩)]), (1, .box 51 (avs (Attr.cells a))), (0, .box 64 (avs (FieldV.cells f)))] 3 ?_
 refine AWp.hz [.run 2] 37 [(2, vi n), (3, .ptr 0 0), (4, .ptr 1 0), (6, .ptr 2 0), (7, vi n)] [(2, .box 46 [vi 0, vi 0, vs (⟨#[]⟩)]), (1, .box 51 (avs (Attr.cells a))), (0, .box 64 (avs (FieldV.cells f)))] 3 ?_
 refine AWp.join (Z 37 [(2, vi n), (3, .ptr 0 0), (4, .ptr 1 0), (6, .ptr 2 0), (7, vi (bif decide (n > 32767) then IntKind.i64.wrap (n - 65536) else n))] [(2, .box 46 [vi 0, vi 0, vs (⟨#[]⟩)]), (1, .box 51 (avs (Attr.cells a))), (0, .box 64 (avs (FieldV.cells f)))] 3) ?_ ?_
 ·
  refine AWp.hz [.run 2] 37 [(2, vi n), (3, .ptr 0 0), (4, .ptr 1 0), (6, .ptr 2 0), (7, vi n), (10, vb (decide (n > 32767)))] [(2, .box 46 [vi 0, vi 0, vs (⟨#[]⟩)]), (1, .box 51 (avs (Attr.cells a))), (0, .box 64 (avs (FieldV.cells f)))] 3 ?_
  refine AWp.cnd (decide (n > 32767)) (fun h1 => ?_) (fun h1 => ?_)
  ·
   have h1' := of_decide_eq_true h1
   refine AWp.he [.run 3] 37 [(2, vi n), (3, .ptr 0 0), (4, .ptr 1 0), (6, .ptr 2 0), (7, vi (IntKind.i64.wrap (n - 65536)))] [(2, .box 46 [vi 0, vi 0, vs (⟨#[]⟩)]), (1, .box 51 (avs (Attr.cells a))), (0, .box 64 (avs (FieldV.cells f)))] 3 ?_
   exact leZ (by rw [h1]; first | done | kernel_rfl)
  ·
   have h1' := of_decide_eq_false h1
   refine AWp.skip ?_
   exact leZ (by rw [h1]; first | done | kernel_rfl)
 ·
  refine AWp.seq ?_
  refine AWp.hz [.run 2] 37 [(2, vi n), (3, .ptr 0 0), (6, .ptr 2 0), (7, vi (bif decide (n > 32767) then IntKind.i64.wrap (n - 65536) else n)), (14, vi a.kind)] [(2, .box 46 [vi 0, vi 0, vs (⟨#[]⟩)]), (0, .box 64 (avs (FieldV.cells f)))] 3 ?_
  refine AWp.block ?_
  refine AWp.hz [.run 2] 37 [(2, vi n), (3, .ptr 0 0), (6, .ptr 2 0), (7, vi (bif decide (n > 32767) then IntKind.i64.wrap (n - 65536) else n)), (14, vi a.kind), (15, vb (a.kind == 1))] [(2, .box 46 [vi 0, vi 0, vs (⟨#[]⟩)]), (0, .box 64 (avs (FieldV.cells f)))] 3 ?_
  refine AWp.cnd ((a.kind == 1)) (fun h2 => ?_) (fun h2 => ?_)
  ·
   refine AWp.join (Z 37 [(6, .ptr 2 0), (7, vi (bif ((bif decide (n > 32767) then IntKind.i64.wrap (n - 65536) else n) != 0) then 1 else (bif decide (n > 32767) then IntKind.i64.wrap (n - 65536) else n)))] [(2, .box 46 [vi 0, vi 0, vs (⟨#[]⟩)])] 3) ?_ ?_
   ·
    refine AWp.hz [.run 2] 37 [(6, .ptr 2 0), (7, vi (bif decide (n > 32767) then IntKind.i64.wrap (n - 65536) else n)), (18, vb ((bif decide (n > 32767) then IntKind.i64.wrap (n - 65536) else n) != 0))] [(2, .box 46 [vi 0, vi 0, vs (⟨#[]⟩)])] 3 ?_
    refine AWp.cnd (((bif decide (n > 32767) then IntKind.i64.wrap (n - 65536) else n) != 0)) (fun h3 => ?_) (fun h3 => ?_)
    ·
     refine AWp.he [.run 1] 37 [(6, .ptr 2 0), (7, vi 1)] [(2, .box 46 [vi 0, vi 0, vs (⟨#[]⟩)])] 3 ?_
     exact leZ (by rw [h3]; first | done | kernel_rfl)
    ·
     refine AWp.skip ?_
     exact leZ (by rw [h3]; first | done | kernel_rfl)
   ·
    refine AWp.hz [.run 3] 37 [(6, .ptr 2 0)] [(2, .box 46 [vi 1, vi (bif ((bif decide (n > 32767) then IntKind.i64.wrap (n - 65536) else n) != 0) then 1 else (bif decide (n > 32767) then IntKind.i64.wrap (n - 65536) else n)), vs (⟨#[]⟩)])] 3 ?_
    refine AWp.ret ?_
    exact leafR (r := .agg [vi 1, vi (bif ((bif decide (n > 32767) then IntKind.i64.wrap (n - 65536) else n) != 0) then 1 else (bif decide (n > 32767) then IntKind.i64.wrap (n - 65536) else n)), vs (⟨#[]⟩)]) (by show (.agg [vi 1, vi (bif ((bif decide (n > 32767) then IntKind.i64.wrap (n - 65536) else n) != 0) then 1 else (bif decide (n > 32767) then IntKind.i64.wrap (n - 65536) else n)), vs (⟨#[]⟩)] : AV) = .agg (avs (Val.cells (rvalueM f a n))); unfold rvalueM; (try rw [h2]); first | done | kernel_rfl)
  ·
   refine AWp.hz [.run 2] 37 [(2, vi n), (3, .ptr 0 0), (6, .ptr 2 0), (7, vi (bif decide (n > 32767) then IntKind.i64.wrap (n - 65536) else n)), (21, vb (a.kind == 2))] [(2, .box 46 [vi 0, vi 0, vs (⟨#[]⟩)]), (0, .box 64 (avs (FieldV.cells f)))] 3 ?_
   refine AWp.cnd ((a.kind == 2)) (fun h4 => ?_) (fun h4 => ?_)
   ·
    refine AWp.seq ?_
    refine AWp.dzT 9 [vi (bif decide (n > 32767) then IntKind.i64.wrap (n - 65536) else n), .ptr 0 3, vi f.scale, vi (IntKind.i64.wrap ((bif decide (n > 32767) then IntKind.i64.wrap (n - 65536) else n) * f.scale)), vi (rfloorM (IntKind.i64.wrap ((bif decide (n > 32767) then IntKind.i64.wrap (n - 65536) else n) * f.scale)) 10), .ptr 0 4, vi f.offset, vi (IntKind.i64.wrap (rfloorM (IntKind.i64.wrap ((bif decide (n > 32767) then IntKind.i64.wrap (n - 65536) else n) * f.scale)) 10 + f.offset)), .agg [vi 2, vi (IntKind.i64.wrap (rfloorM (IntKind.i64.wrap ((bif decide (n > 32767) then IntKind.i64.wrap (n - 65536) else n) * f.scale)) 10 + f.offset)), vs (⟨#[]⟩)]] 37 [(6, .ptr 2 0), (31, .agg [vi 2, vi (IntKind.i64.wrap (rfloorM (IntKind.i64.wrap ((bif decide (n > 32767) then IntKind.i64.wrap (n - 65536) else n) * f.scale)) 10 + f.offset)), vs (⟨#[]⟩)])] [(2, .box 46 [vi 0, vi 0, vs (⟨#[]⟩)])] 3 ?_ ?_
    ·
     refine DSteps.cons (DStep.va) ?_
     refine DSteps.cons (DStep.va) ?_
     refine DSteps.cons (DStep.va) ?_
     refine DSteps.cons (DStep.va) ?_
     refine DSteps.cons (DStep.call rfl (by kernel_rfl) (by kernel_rfl) (by kernel_rfl) (args := [vi (IntKind.i64.wrap ((bif decide (n > 32767) then IntKind.i64.wrap (n - 65536) else n) * f.scale)), vi 10]) (by kernel_rfl) (by kernel_rfl) (rfloorM_ok (IntKind.i64.wrap ((bif decide (n > 32767) then IntKind.i64.wrap (n - 65536) else n) * f.scale)) 10) (by kernel_rfl) (Nat.le_of_ble_eq_true (by kernel_rfl))) ?_
     refine DSteps.cons (DStep.va) ?_
     refine DSteps.cons (DStep.va) ?_
     refine DSteps.cons (DStep.va) ?_
     refine DSteps.cons (DStep.va) ?_
     exact DSteps.nl
    refine AOps.he [.run 1] 37 [(6, .ptr 2 0)] [(2, .box 46 [vi 2, vi (IntKind.i64.wrap (rfloorM (IntKind.i64.wrap ((bif decide (n > 32767) then IntKind.i64.wrap (n - 65536) else n) * f.scale)) 10 + f.offset)), vs (⟨#[]⟩)])] 3 ?_
    refine AWp.ret ?_
    exact leafR (r := .agg [vi 2, vi (IntKind.i64.wrap (rfloorM (IntKind.i64.wrap ((bif decide (n > 32767) then IntKind.i64.wrap (n - 65536) else n) * f.scale)) 10 + f.offset)), vs (⟨#[]⟩)]) (by show (.agg [vi 2, vi (IntKind.i64.wrap (rfloorM (IntKind.i64.wrap ((bif decide (n > 32767) then IntKind.i64.wrap (n - 65536) else n) * f.scale)) 10 + f.offset)), vs (⟨#[]⟩)] : AV) = .agg (avs (Val.cells (rvalueM f a n))); unfold rvalueM; (try rw [h2]); (try rw [h4]); first | done | kernel_rfl)
   ·
    refine AWp.skip ?_
    refine AWp.hz [.run 3, .call 51 [.rv (.sl 1 (f.map.map intC)), vi n] (vi (rindexM f.map n)) [] 0 (rindexM_ok f.map n), .run 2] 37 [(6, .ptr 2 0)] [(2, .box 46 [vi 3, vi (rindexM f.map n), vs (⟨#[]⟩)])] 3 ?_
    refine AWp.ret ?_
    exact leafR (r := .agg [vi 3, vi (rindexM f.map n), vs (⟨#[]⟩)]) (by show (.agg [vi 3, vi (rindexM f.map n), vs (⟨#[]⟩)] : AV) = .agg (avs (Val.cells (rvalueM f a n))); unfold rvalueM; (try rw [h2]); (try rw [h4]); first | done | kernel_rfl)
def readM (f : FieldV) (a : Attr) (n : Int) : Val × Bool :=
  (bif ((a.kind == 1) || ((a.kind == 2) || !(decide (iIndexM f.map n < 0)))) then ((⟨a.kind, (bif (a.kind == 1) then (bif (IntKind.i64.wrap (IntKind.i16.wrap n) != 0) then 1 else 0) else (bif (a.kind == 2) then IntKind.i64.wrap (floorM (IntKind.i64.wrap (IntKind.i64.wrap (IntKind.i16.wrap n) * f.scale)) 10 + f.offset) else iIndexM f.map n)), ⟨#[]⟩⟩ : Val), (fitsM a (⟨a.kind, (bif (a.kind == 1) then (bif (IntKind.i64.wrap (IntKind.i16.wrap n) != 0) then 1 else 0) else (bif (a.kind == 2) then IntKind.i64.wrap (floorM (IntKind.i64.wrap (IntKind.i64.wrap (IntKind.i16.wrap n) * f.scale)) 10 + f.offset) else iIndexM f.map n)), ⟨#[]⟩⟩ : Val) == 0)) else ((⟨0, 0, ⟨#[]⟩⟩ : Val), false))
theorem readM_ok (f : FieldV) (a : Attr) (n : Int) :
 ACalls Try.prog G_ 28 [.agg (avs (FieldV.cells f)), .agg (avs (Attr.cells a)), vi n] [] 0 (fun r τ => r = .tuple [.agg (avs (Val.cells ((readM f a n).1))), vb ((readM f a n).2)] ∧ τ = []) := by
 refine ACalls.body Try.func28 rfl 48 [(0, .agg (avs (FieldV.cells f))), (1, .agg (avs (Attr.cells a))), (2, vi n)] ?_
 refine AWp.hz [.run 4] 48 [(2, vi n), (3, .ptr 0 0), (4, .ptr 1 0), (6, .ptr 2 0)] [(2, .box 46 [vi 0, vi 0, vs (⟨#[]⟩)]), (1, .box 51 (avs (Attr.cells a))), (0, .box 64 (avs (FieldV.cells f)))] 3 ?_
 refine AWp.hz [.run 5] 48 [(2, vi n), (3, .ptr 0 0), (4, .ptr 1 0), (6, .ptr 2 0), (8, .ptr 3 0)] [(3, .box 46 [vi a.kind, vi 0, vs (⟨#[]⟩)]), (2, .box 46 [vi 0, vi 0, vs (⟨#[]⟩)]), (1, .box 51 (avs (Attr.cells a))), (0, .box 64 (avs (FieldV.cells f)))] 4 ?_
 refine AWp.hz [.run 4] 48 [(2, vi n), (3, .ptr 0 0), (4, .ptr 1 0), (6, .ptr 2 0), (8, .ptr 3 0), (9, vi (IntKind.i64.wrap (IntKind.i16.wrap n)))] [(3, .box 46 [vi a.kind, vi 0, vs (⟨#[]⟩)]), (2, .box 46 [vi 0, vi 0, vs (⟨#[]⟩)]), (1, .box 51 (avs (Attr.cells a))), (0, .box 64 (avs (FieldV.cells f)))] 4 ?_
 refine AWp.joinP (Z 48 [(4, .ptr 1 0), (6, .ptr 2 0), (8, .ptr 3 0)] [(3, .box 46 [vi a.kind, vi (bif (a.kind == 1) then (bif (IntKind.i64.wrap (IntKind.i16.wrap n) != 0) then 1 else 0) else (bif (a.kind == 2) then IntKind.i64.wrap (floorM (IntKind.i64.wrap (IntKind.i64.wrap (IntKind.i16.wrap n) * f.scale)) 10 + f.offset) else iIndexM f.map n)), vs (⟨#[]⟩)]), (2, .box 46 [vi 0, vi 0, vs (⟨#[]⟩)]), (1, .box 51 (avs (Attr.cells a)))] 4) (((a.kind == 1) || ((a.kind == 2) || !(decide (iIndexM f.map n < 0)))) = true) ?_ (fun hj1 => ?_)
 ·
  refine AWp.hz [.run 2] 48 [(2, vi n), (3, .ptr 0 0), (4, .ptr 1 0), (6, .ptr 2 0), (8, .ptr 3 0), (9, vi (IntKind.i64.wrap (IntKind.i16.wrap n))), (17, vi a.kind)] [(3, .box 46 [vi a.kind, vi 0, vs (⟨#[]⟩)]), (2, .box 46 [vi 0, vi 0, vs (⟨#[]⟩)]), (1, .box 51 (avs (Attr.cells a))), (0, .box 64 (avs (FieldV.cells f)))] 4 ?_
  refine AWp.block ?_
  refine AWp.hz [.run 2] 48 [(2, vi n), (3, .ptr 0 0), (4, .ptr 1 0), (6, .ptr 2 0), (8, .ptr 3 0), (9, vi (IntKind.i64.wrap (IntKind.i16.wrap n))), (17, vi a.kind), (27, vb (a.kind == 1))] [(3, .box 46 [vi a.kind, vi 0, vs (⟨#[]⟩)]), (2, .box 46 [vi 0, vi 0, vs (⟨#[]⟩)]), (1, .box 51 (avs (Attr.cells a))), (0, .box 64 (avs (FieldV.cells f)))] 4 ?_
  refine AWp.cnd ((a.kind == 1)) (fun h2 => ?_) (fun h2 => ?_)
  ·
   refine AWp.hz [.run 2] 48 [(4, .ptr 1 0), (6, .ptr 2 0), (8, .ptr 3 0), (30, vb (IntKind.i64.wrap (IntKind.i16.wrap n) != 0))] [(3, .box 46 [vi a.kind, vi 0, vs (⟨#[]⟩)]), (2, .box 46 [vi 0, vi 0, vs (⟨#[]⟩)]), (1, .box 51 (avs (Attr.cells a)))] 4 ?_
   refine AWp.cnd ((IntKind.i64.wrap (IntKind.i16.wrap n) != 0)) (fun h3 => ?_) (fun h3 => ?_)
   ·
    refine AWp.he [.run 2] 48 [(4, .ptr 1 0), (6, .ptr 2 0), (8, .ptr 3 0)] [(3, .box 46 [vi a.kind, vi 1, vs (⟨#[]⟩)]), (2, .box 46 [vi 0, vi 0, vs (⟨#[]⟩)]), (1, .box 51 (avs (Attr.cells a)))] 4 ?_
    exact ⟨leZ (by rw [h2, h3]; first | done | kernel_rfl), by rw [h2]; first | done | kernel_rfl⟩
   ·
    refine AWp.skip ?_
    exact ⟨leZ (by rw [h2, h3]; first | done | kernel_rfl), by rw [h2]; first | done | kernel_rfl⟩
  ·
   refine AWp.hz [.run 2] 48 [(2, vi n), (3, .ptr 0 0), (4, .ptr 1 0), (6, .ptr 2 0), (8, .ptr 3 0), (9, vi (IntKind.i64.wrap (IntKind.i16.wrap n))), (32, vb (a.kind == 2))] [(3, .box 46 [vi a.kind, vi 0, vs (⟨#[]⟩)]), (2, .box 46 [vi 0, vi 0, vs (⟨#[]⟩)]), (1, .box 51 (avs (Attr.cells a))), (0, .box 64 (avs (FieldV.cells f)))] 4 ?_
   refine AWp.cnd ((a.kind == 2)) (fun h4 => ?_) (fun h4 => ?_)
   ·
    refine AWp.dzT 9 [vi (IntKind.i64.wrap (IntKind.i16.wrap n)), .ptr 0 3, vi f.scale, vi (IntKind.i64.wrap (IntKind.i64.wrap (IntKind.i16.wrap n) * f.scale)), vi (floorM (IntKind.i64.wrap (IntKind.i64.wrap (IntKind.i16.wrap n) * f.scale)) 10), .ptr 0 4, vi f.offset, vi (IntKind.i64.wrap (floorM (IntKind.i64.wrap (IntKind.i64.wrap (IntKind.i16.wrap n) * f.scale)) 10 + f.offset)), .ptr 3 1] 48 [(4, .ptr 1 0), (6, .ptr 2 0), (8, .ptr 3 0), (41, vi (IntKind.i64.wrap (floorM (IntKind.i64.wrap (IntKind.i64.wrap (IntKind.i16.wrap n) * f.scale)) 10 + f.offset))), (42, .ptr 3 1)] [(3, .box 46 [vi a.kind, vi 0, vs (⟨#[]⟩)]), (2, .box 46 [vi 0, vi 0, vs (⟨#[]⟩)]), (1, .box 51 (avs (Attr.cells a)))] 4 ?_ ?_
    ·
     refine DSteps.cons (DStep.va) ?_
     refine DSteps.cons (DStep.va) ?_
     refine DSteps.cons (DStep.va) ?_
     refine DSteps.cons (DStep.va) ?_
     refine DSteps.cons (DStep.call rfl (by kernel_rfl) (by kernel_rfl) (by kernel_rfl) (args := [vi (IntKind.i64.wrap (IntKind.i64.wrap (IntKind.i16.wrap n) * f.scale)), vi 10]) (by kernel_rfl) (by kernel_rfl) (floorM_ok (IntKind.i64.wrap (IntKind.i64.wrap (IntKind.i16.wrap n) * f.scale)) 10) (by kernel_rfl) (Nat.le_of_ble_eq_true (by kernel_rfl))) ?_
     refine DSteps.cons (DStep.va) ?_
     refine DSteps.cons (DStep.va) ?_
     refine DSteps.cons (DStep.va) ?_
     refine DSteps.cons (DStep.va) ?_
     exact DSteps.nl
    refine AOps.he [.run 1] 48 [(4, .ptr 1 0), (6, .ptr 2 0), (8, .ptr 3 0)] [(3, .box 46 [vi a.kind, vi (IntKind.i64.wrap (floorM (IntKind.i64.wrap (IntKind.i64.wrap (IntKind.i16.wrap n) * f.scale)) 10 + f.offset)), vs (⟨#[]⟩)]), (2, .box 46 [vi 0, vi 0, vs (⟨#[]⟩)]), (1, .box 51 (avs (Attr.cells a)))] 4 ?_
    exact ⟨leZ (by rw [h2, h4]; first | done | kernel_rfl), by rw [h2, h4]; first | done | kernel_rfl⟩
   ·
    refine AWp.hz [.run 3, .call 55 [.rv (.sl 1 (f.map.map intC)), vi n] (vi (iIndexM f.map n)) [] 0 (iIndexM_ok f.map n), .run 2] 48 [(4, .ptr 1 0), (6, .ptr 2 0), (8, .ptr 3 0)] [(3, .box 46 [vi a.kind, vi (iIndexM f.map n), vs (⟨#[]⟩)]), (2, .box 46 [vi 0, vi 0, vs (⟨#[]⟩)]), (1, .box 51 (avs (Attr.cells a)))] 4 ?_
    refine AWp.hz [.run 3] 48 [(4, .ptr 1 0), (6, .ptr 2 0), (8, .ptr 3 0), (25, vb (decide (iIndexM f.map n < 0)))] [(3, .box 46 [vi a.kind, vi (iIndexM f.map n), vs (⟨#[]⟩)]), (2, .box 46 [vi 0, vi 0, vs (⟨#[]⟩)]), (1, .box 51 (avs (Attr.cells a)))] 4 ?_
    refine AWp.cnd (decide (iIndexM f.map n < 0)) (fun h5 => ?_) (fun h5 => ?_)
    ·
     have h5' := of_decide_eq_true h5
     refine AWp.hz [.run 3] 48 [(6, .ptr 2 0), (7, vb false)] [(2, .box 46 [vi 0, vi 0, vs (⟨#[]⟩)])] 4 ?_
     refine AWp.ret ?_
     exact leafR (r := .tuple [.agg [vi 0, vi 0, vs (⟨#[]⟩)], vb false]) (by show (.tuple [.agg [vi 0, vi 0, vs (⟨#[]⟩)], vb false] : AV) = .tuple [.agg (avs (Val.cells ((readM f a n).1))), vb ((readM f a n).2)]; unfold readM; (try rw [h2]); (try rw [h4]); (try rw [h5]); first | done | kernel_rfl)
    ·
     have h5' := of_decide_eq_false h5
     refine AWp.skip ?_
     exact ⟨leZ (by rw [h2, h4]; first | done | kernel_rfl), by rw [h2, h4, h5]; first | done | kernel_rfl⟩
 ·
  refine AWp.seq ?_
  refine AWp.cut (fuel := 0) (m := [true, true, true, true, true, true, true]) (s := Z 48 [(6, .ptr 2 0), (7, vb (fitsM a (⟨a.kind, (bif (a.kind == 1) then (bif (IntKind.i64.wrap (IntKind.i16.wrap n) != 0) then 1 else 0) else (bif (a.kind == 2) then IntKind.i64.wrap (floorM (IntKind.i64.wrap (IntKind.i64.wrap (IntKind.i16.wrap n) * f.scale)) 10 + f.offset) else iIndexM f.map n)), ⟨#[]⟩⟩ : Val) == 0))] [(2, .box 46 [vi a.kind, vi (bif (a.kind == 1) then (bif (IntKind.i64.wrap (IntKind.i16.wrap n) != 0) then 1 else 0) else (bif (a.kind == 2) then IntKind.i64.wrap (floorM (IntKind.i64.wrap (IntKind.i64.wrap (IntKind.i16.wrap n) * f.scale)) 10 + f.offset) else iIndexM f.map n)), vs (⟨#[]⟩)])] 4) (AD.done ?_) (fun hd6 => ?_)
  ·
   refine AWp.ret ?_
   exact leafR (r := .tuple [.agg [vi a.kind, vi (bif (a.kind == 1) then (bif (IntKind.i64.wrap (IntKind.i16.wrap n) != 0) then 1 else 0) else (bif (a.kind == 2) then IntKind.i64.wrap (floorM (IntKind.i64.wrap (IntKind.i64.wrap (IntKind.i16.wrap n) * f.scale)) 10 + f.offset) else iIndexM f.map n)), vs (⟨#[]⟩)], vb (fitsM a (⟨a.kind, (bif (a.kind == 1) then (bif (IntKind.i64.wrap (IntKind.i16.wrap n) != 0) then 1 else 0) else (bif (a.kind == 2) then IntKind.i64.wrap (floorM (IntKind.i64.wrap (IntKind.i64.wrap (IntKind.i16.wrap n) * f.scale)) 10 + f.offset) else iIndexM f.map n)), ⟨#[]⟩⟩ : Val) == 0)]) (by show (.tuple [.agg [vi a.kind, vi (bif (a.kind == 1) then (bif (IntKind.i64.wrap (IntKind.i16.wrap n) != 0) then 1 else 0) else (bif (a.kind == 2) then IntKind.i64.wrap (floorM (IntKind.i64.wrap (IntKind.i64.wrap (IntKind.i16.wrap n) * f.scale)) 10 + f.offset) else iIndexM f.map n)), vs (⟨#[]⟩)], vb (fitsM a (⟨a.kind, (bif (a.kind == 1) then (bif (IntKind.i64.wrap (IntKind.i16.wrap n) != 0) then 1 else 0) else (bif (a.kind == 2) then IntKind.i64.wrap (floorM (IntKind.i64.wrap (IntKind.i64.wrap (IntKind.i16.wrap n) * f.scale)) 10 + f.offset) else iIndexM f.map n)), ⟨#[]⟩⟩ : Val) == 0)] : AV) = .tuple [.agg (avs (Val.cells ((readM f a n).1))), vb ((readM f a n).2)]; unfold readM; (try rw [hj1]); first | done | kernel_rfl)
  refine AWp.cut (fuel := 1) (m := [true, true, true, true, true, true, false]) (s := Z 48 [(6, .ptr 2 0), (47, vb (fitsM a (⟨a.kind, (bif (a.kind == 1) then (bif (IntKind.i64.wrap (IntKind.i16.wrap n) != 0) then 1 else 0) else (bif (a.kind == 2) then IntKind.i64.wrap (floorM (IntKind.i64.wrap (IntKind.i64.wrap (IntKind.i16.wrap n) * f.scale)) 10 + f.offset) else iIndexM f.map n)), ⟨#[]⟩⟩ : Val) == 0))] [(2, .box 46 [vi a.kind, vi (bif (a.kind == 1) then (bif (IntKind.i64.wrap (IntKind.i16.wrap n) != 0) then 1 else 0) else (bif (a.kind == 2) then IntKind.i64.wrap (floorM (IntKind.i64.wrap (IntKind.i64.wrap (IntKind.i16.wrap n) * f.scale)) 10 + f.offset) else iIndexM f.map n)), vs (⟨#[]⟩)])] 4) (AD.tk 6 _ _ _ _ hd6) (fun hd7 => ?_)
  refine AWp.cutK (wr := [false, false, false, false, false, true, false]) (fuel := 2) (m := [true, true, true, true, true, false, false]) (s := Z 48 [(6, .ptr 2 0), (43, .agg [vi a.kind, vi (bif (a.kind == 1) then (bif (IntKind.i64.wrap (IntKind.i16.wrap n) != 0) then 1 else 0) else (bif (a.kind == 2) then IntKind.i64.wrap (floorM (IntKind.i64.wrap (IntKind.i64.wrap (IntKind.i16.wrap n) * f.scale)) 10 + f.offset) else iIndexM f.map n)), vs (⟨#[]⟩)]), (47, vb (fitsM a (⟨a.kind, (bif (a.kind == 1) then (bif (IntKind.i64.wrap (IntKind.i16.wrap n) != 0) then 1 else 0) else (bif (a.kind == 2) then IntKind.i64.wrap (floorM (IntKind.i64.wrap (IntKind.i64.wrap (IntKind.i16.wrap n) * f.scale)) 10 + f.offset) else iIndexM f.map n)), ⟨#[]⟩⟩ : Val) == 0))] [(2, .box 46 [vi 0, vi 0, vs (⟨#[]⟩)])] 4) (KD.step 5 [] (KDs.w _ rfl rfl (AOps.he [.run 1] _ _ _ _ ⟨rfl, rfl⟩) hd7 (KDs.nil))) (fun hd8 => ?_)
  refine AWp.cut (fuel := 2) (m := [true, true, true, true, false, true, false]) (s := Z 48 [(6, .ptr 2 0), (46, vi (fitsM a (⟨a.kind, (bif (a.kind == 1) then (bif (IntKind.i64.wrap (IntKind.i16.wrap n) != 0) then 1 else 0) else (bif (a.kind == 2) then IntKind.i64.wrap (floorM (IntKind.i64.wrap (IntKind.i64.wrap (IntKind.i16.wrap n) * f.scale)) 10 + f.offset) else iIndexM f.map n)), ⟨#[]⟩⟩ : Val)))] [(2, .box 46 [vi a.kind, vi (bif (a.kind == 1) then (bif (IntKind.i64.wrap (IntKind.i16.wrap n) != 0) then 1 else 0) else (bif (a.kind == 2) then IntKind.i64.wrap (floorM (IntKind.i64.wrap (IntKind.i64.wrap (IntKind.i16.wrap n) * f.scale)) 10 + f.offset) else iIndexM f.map n)), vs (⟨#[]⟩)])] 4) (AD.step 4 [] (ADs.cons _ rfl (AOps.he [.run 1] _ _ _ _ ⟨rfl, rfl⟩) hd7 (ADs.nil))) (fun hd9 => ?_)
  refine AWp.cutK (wr := [false, false, false, false, false, true, false]) (fuel := 3) (m := [true, true, true, true, false, false, false]) (s := Z 48 [(6, .ptr 2 0), (43, .agg [vi a.kind, vi (bif (a.kind == 1) then (bif (IntKind.i64.wrap (IntKind.i16.wrap n) != 0) then 1 else 0) else (bif (a.kind == 2) then IntKind.i64.wrap (floorM (IntKind.i64.wrap (IntKind.i64.wrap (IntKind.i16.wrap n) * f.scale)) 10 + f.offset) else iIndexM f.map n)), vs (⟨#[]⟩)]), (46, vi (fitsM a (⟨a.kind, (bif (a.kind == 1) then (bif (IntKind.i64.wrap (IntKind.i16.wrap n) != 0) then 1 else 0) else (bif (a.kind == 2) then IntKind.i64.wrap (floorM (IntKind.i64.wrap (IntKind.i64.wrap (IntKind.i16.wrap n) * f.scale)) 10 + f.offset) else iIndexM f.map n)), ⟨#[]⟩⟩ : Val)))] [(2, .box 46 [vi 0, vi 0, vs (⟨#[]⟩)])] 4) (KD.step 4 [5] (KDs.k _ rfl rfl (KOp.run _ _ _ _) hd8 (KDs.w _ rfl rfl (AOps.he [.run 1] _ _ _ _ ⟨rfl, rfl⟩) hd9 (KDs.nil)))) (fun hd10 => ?_)
  refine AWp.cutK (wr := [false, false, false, false, false, true, false]) (fuel := 4) (m := [true, true, true, false, false, false, false]) (s := Z 48 [(6, .ptr 2 0), (43, .agg [vi a.kind, vi (bif (a.kind == 1) then (bif (IntKind.i64.wrap (IntKind.i16.wrap n) != 0) then 1 else 0) else (bif (a.kind == 2) then IntKind.i64.wrap (floorM (IntKind.i64.wrap (IntKind.i64.wrap (IntKind.i16.wrap n) * f.scale)) 10 + f.offset) else iIndexM f.map n)), vs (⟨#[]⟩)]), (44, .agg (avs (Attr.cells a))), (45, .agg [vi a.kind, vi (bif (a.kind == 1) then (bif (IntKind.i64.wrap (IntKind.i16.wrap n) != 0) then 1 else 0) else (bif (a.kind == 2) then IntKind.i64.wrap (floorM (IntKind.i64.wrap (IntKind.i64.wrap (IntKind.i16.wrap n) * f.scale)) 10 + f.offset) else iIndexM f.map n)), vs (⟨#[]⟩)])] [(2, .box 46 [vi 0, vi 0, vs (⟨#[]⟩)])] 4) (KD.step 3 [] (KDs.k _ rfl rfl (KOp.call 18 [.agg (avs (Attr.cells a)), .agg [vi a.kind, vi (bif (a.kind == 1) then (bif (IntKind.i64.wrap (IntKind.i16.wrap n) != 0) then 1 else 0) else (bif (a.kind == 2) then IntKind.i64.wrap (floorM (IntKind.i64.wrap (IntKind.i64.wrap (IntKind.i16.wrap n) * f.scale)) 10 + f.offset) else iIndexM f.map n)), vs (⟨#[]⟩)]] (vi (fitsM a (⟨a.kind, (bif (a.kind == 1) then (bif (IntKind.i64.wrap (IntKind.i16.wrap n) != 0) then 1 else 0) else (bif (a.kind == 2) then IntKind.i64.wrap (floorM (IntKind.i64.wrap (IntKind.i64.wrap (IntKind.i16.wrap n) * f.scale)) 10 + f.offset) else iIndexM f.map n)), ⟨#[]⟩⟩ : Val))) [] 0 (fitsM_ok a (⟨a.kind, (bif (a.kind == 1) then (bif (IntKind.i64.wrap (IntKind.i16.wrap n) != 0) then 1 else 0) else (bif (a.kind == 2) then IntKind.i64.wrap (floorM (IntKind.i64.wrap (IntKind.i64.wrap (IntKind.i16.wrap n) * f.scale)) 10 + f.offset) else iIndexM f.map n)), ⟨#[]⟩⟩ : Val)) _ _ _ _) hd10 (KDs.nil))) (fun hd11 => ?_)
  refine AWp.cutK (wr := [false, false, false, false, false, true, false]) (fuel := 5) (m := [true, true, false, false, false, false, false]) (s := Z 48 [(6, .ptr 2 0), (8, .ptr 3 0), (43, .agg [vi a.kind, vi (bif (a.kind == 1) then (bif (IntKind.i64.wrap (IntKind.i16.wrap n) != 0) then 1 else 0) else (bif (a.kind == 2) then IntKind.i64.wrap (floorM (IntKind.i64.wrap (IntKind.i64.wrap (IntKind.i16.wrap n) * f.scale)) 10 + f.offset) else iIndexM f.map n)), vs (⟨#[]⟩)]), (44, .agg (avs (Attr.cells a)))] [(2, .box 46 [vi 0, vi 0, vs (⟨#[]⟩)]), (3, .box 46 [vi a.kind, vi (bif (a.kind == 1) then (bif (IntKind.i64.wrap (IntKind.i16.wrap n) != 0) then 1 else 0) else (bif (a.kind == 2) then IntKind.i64.wrap (floorM (IntKind.i64.wrap (IntKind.i64.wrap (IntKind.i16.wrap n) * f.scale)) 10 + f.offset) else iIndexM f.map n)), vs (⟨#[]⟩)])] 4) (KD.step 2 [] (KDs.k _ rfl rfl (KOp.run _ _ _ _) hd11 (KDs.nil))) (fun hd12 => ?_)
  refine AWp.cutK (wr := [false, false, false, false, false, true, false]) (fuel := 5) (m := [true, false, true, false, false, false, false]) (s := Z 48 [(4, .ptr 1 0), (6, .ptr 2 0), (43, .agg [vi a.kind, vi (bif (a.kind == 1) then (bif (IntKind.i64.wrap (IntKind.i16.wrap n) != 0) then 1 else 0) else (bif (a.kind == 2) then IntKind.i64.wrap (floorM (IntKind.i64.wrap (IntKind.i64.wrap (IntKind.i16.wrap n) * f.scale)) 10 + f.offset) else iIndexM f.map n)), vs (⟨#[]⟩)]), (45, .agg [vi a.kind, vi (bif (a.kind == 1) then (bif (IntKind.i64.wrap (IntKind.i16.wrap n) != 0) then 1 else 0) else (bif (a.kind == 2) then IntKind.i64.wrap (floorM (IntKind.i64.wrap (IntKind.i64.wrap (IntKind.i16.wrap n) * f.scale)) 10 + f.offset) else iIndexM f.map n)), vs (⟨#[]⟩)])] [(1, .box 51 (avs (Attr.cells a))), (2, .box 46 [vi 0, vi 0, vs (⟨#[]⟩)])] 4) (KD.step 1 [] (KDs.k _ rfl rfl (KOp.run _ _ _ _) hd11 (KDs.nil))) (fun hd13 => ?_)
  refine AWp.cutK (wr := [false, false, false, false, false, true, false]) (fuel := 6) (m := [true, false, false, false, false, false, false]) (s := Z 48 [(4, .ptr 1 0), (6, .ptr 2 0), (8, .ptr 3 0), (43, .agg [vi a.kind, vi (bif (a.kind == 1) then (bif (IntKind.i64.wrap (IntKind.i16.wrap n) != 0) then 1 else 0) else (bif (a.kind == 2) then IntKind.i64.wrap (floorM (IntKind.i64.wrap (IntKind.i64.wrap (IntKind.i16.wrap n) * f.scale)) 10 + f.offset) else iIndexM f.map n)), vs (⟨#[]⟩)])] [(1, .box 51 (avs (Attr.cells a))), (2, .box 46 [vi 0, vi 0, vs (⟨#[]⟩)]), (3, .box 46 [vi a.kind, vi (bif (a.kind == 1) then (bif (IntKind.i64.wrap (IntKind.i16.wrap n) != 0) then 1 else 0) else (bif (a.kind == 2) then IntKind.i64.wrap (floorM (IntKind.i64.wrap (IntKind.i64.wrap (IntKind.i16.wrap n) * f.scale)) 10 + f.offset) else iIndexM f.map n)), vs (⟨#[]⟩)])] 4) (KD.step 1 [2] (KDs.k _ rfl rfl (KOp.run _ _ _ _) hd12 (KDs.k _ rfl rfl (KOp.run _ _ _ _) hd13 (KDs.nil)))) (fun hd14 => ?_)
  refine AWp.cutK (wr := [false, false, false, false, false, true, false]) (fuel := 7) (m := [false, false, false, false, false, false, false]) (s := Z 48 [(4, .ptr 1 0), (6, .ptr 2 0), (8, .ptr 3 0)] [(1, .box 51 (avs (Attr.cells a))), (2, .box 46 [vi 0, vi 0, vs (⟨#[]⟩)]), (3, .box 46 [vi a.kind, vi (bif (a.kind == 1) then (bif (IntKind.i64.wrap (IntKind.i16.wrap n) != 0) then 1 else 0) else (bif (a.kind == 2) then IntKind.i64.wrap (floorM (IntKind.i64.wrap (IntKind.i64.wrap (IntKind.i16.wrap n) * f.scale)) 10 + f.offset) else iIndexM f.map n)), vs (⟨#[]⟩)])] 4) (KD.tk 0 _ _ _ _ hd14) (fun hd15 => ?_)
  exact AWp.drawnA 7 leZ (KD.ad hd15)
end Go.Proofs.Ytmjimhkbehoomaa
