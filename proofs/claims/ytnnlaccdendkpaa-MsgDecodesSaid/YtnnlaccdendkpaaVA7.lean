/- Lists of clusters, equality: the contracts. -/
import Derived.Test.YtnnlaccdendkpaaVA6
namespace Go.Proofs.Ytnnlaccdendkpaa
open Go Go.Av Go.Hh Go.Proofs
set_option maxRecDepth 100000
set_option maxHeartbeats 4000000
def allM_B2 (l : List Cluster) (k1_ : Nat) (e1_ : Cluster) (k2_ : Nat) : Option Int :=
 (match ((l.take k1_))[k2_]? with | some e2_ => (bif beqS e2_.name e1_.name then some 9 else none) | none => none)
def allM_L2 (l : List Cluster) (k1_ : Nat) (e1_ : Cluster) : Option Int := scanN (allM_B2 l k1_ e1_) 0 ((l.take k1_).length)
def allM_B1 (l : List Cluster) (k1_ : Nat) : Option Int :=
 (match (l)[k1_]? with | some e1_ => (bif (checkM e1_ != 0) then some (checkM e1_) else allM_L2 l k1_ e1_) | none => none)
def allM_L1 (l : List Cluster) : Option Int := scanN (allM_B1 l) 0 l.length
def allM (l : List Cluster) : Int :=
 (bif decide ((l.length : Int) > 256) then 3 else (allM_L1 l).getD 0)
abbrev allM_c1 (l : List Cluster) : Nat × AV := (0, .rv (.sl 4 (l.map Cluster.cells)))
abbrev allM_c2 (l : List Cluster) : Nat × AV := (11, .rv (.sl 4 (l.map Cluster.cells)))
abbrev allM_c3 (l : List Cluster) : Nat × AV := (12, vi (l.length : Int))
abbrev allM_c4 (e1_ : Cluster) : Nat × AObj := (0, .box 46 (avs (Cluster.cells e1_)))
abbrev allM_c5 (k1_ : Nat) : Nat × AV := (13, vi (k1_ : Int))
abbrev allM_c6 (l : List Cluster) (k1_ : Nat) : Nat × AV := (25, .rv (.sl 4 ((l.take k1_).map Cluster.cells)))
abbrev allM_c7 (l : List Cluster) (k1_ : Nat) : Nat × AV := (26, vi (((l.take k1_).length : Nat) : Int))
theorem allM_ok (l : List Cluster) :
 ACalls Try.prog G_ 86 [.rv (.sl 4 (l.map Cluster.cells))] [] 0 (fun r τ => r = vi (allM l) ∧ τ = []) := by
 refine ACalls.body Try.func86 rfl 38 [(allM_c1 l)] ?_
 refine AWp.hz [.run 1] 38 [(allM_c1 l)] [] 0 ?_
 refine AWp.seq ?_
 refine AWp.hzl [.run 1, .len Cluster.cells l 4, .run 1] 38 [(allM_c1 l), (10, vb (decide ((l.length : Int) > 256)))] [] 0 (fun hl => ?_)
 obtain ⟨hn1, -⟩ := hl
 refine AWp.cnd (decide ((l.length : Int) > 256)) (fun h2 => ?_) (fun h2 => ?_)
 ·
  have h2' := of_decide_eq_true h2
  refine AWp.hz [.run 1] 38 [(2, vi 3)] [] 0 ?_
  refine AWp.ret ?_
  exact leafR (r := vi 3) (by unfold allM; (try rw [h2]); try kernel_rfl)
 ·
  have h2' := of_decide_eq_false h2
  refine AWp.skip ?_
  refine AWp.seq ?_
  refine AWp.hzl [.run 1, .len Cluster.cells l 4, .run 1] 38 [(allM_c1 l), (allM_c2 l), (allM_c3 l), (13, vi 0)] [] 0 (fun hl => ?_)
  obtain ⟨hn3, -⟩ := hl
  refine AWp.block ?_
  refine AWp.loop (ι := Nat) (fun k1_ => Z 38 [(allM_c1 l), (allM_c2 l), (allM_c3 l), (allM_c5 k1_)] [] 0) (fun k1_ => k1_ ≤ l.length ∧ allM_L1 l = scanN (allM_B1 l) k1_ (l.length - k1_)) (fun k1_ => l.length - k1_) 0 leZ ⟨Nat.zero_le _, rfl⟩ ?_
  intro k1_ ⟨hk1_, hs1_⟩
  refine AWp.hz [.run 1] 38 [(allM_c1 l), (allM_c2 l), (allM_c3 l), (allM_c5 k1_), (14, vb (decide ((k1_ : Int) < (l.length : Int))))] [] 0 ?_
  refine AWp.seq ?_
  refine AWp.cnd (decide ((k1_ : Int) < (l.length : Int))) (fun h4 => ?_) (fun h4 => ?_)
  ·
   have h4' := of_decide_eq_true h4
   refine AWp.skip ?_
   refine AWp.seq ?_
   refine AWp.block ?_
   obtain ⟨e1_, he1_⟩ : ∃ e_, (l)[k1_]? = some e_ := ⟨_, List.getElem?_eq_getElem (by omega)⟩
   refine AWp.hz [.run 1, .idx Cluster.cells l 4 k1_ e1_ he1_, .run 4] 38 [(allM_c1 l), (3, vi (k1_ : Int)), (4, .ptr 0 0), (allM_c2 l), (allM_c3 l), (allM_c5 k1_)] [(allM_c4 e1_)] 1 ?_
   refine AWp.seq ?_
   refine AWp.hz [.run 1, .call 91 [.agg (avs (Cluster.cells e1_))] (vi (checkM e1_)) [] 0 (checkM_ok e1_), .run 1] 38 [(allM_c1 l), (3, vi (k1_ : Int)), (4, .ptr 0 0), (5, vi (checkM e1_)), (allM_c2 l), (allM_c3 l), (allM_c5 k1_)] [(allM_c4 e1_)] 1 ?_
   refine AWp.hz [.run 2] 38 [(allM_c1 l), (3, vi (k1_ : Int)), (4, .ptr 0 0), (5, vi (checkM e1_)), (allM_c2 l), (allM_c3 l), (allM_c5 k1_), (21, vb (checkM e1_ != 0))] [(allM_c4 e1_)] 1 ?_
   refine AWp.cnd ((checkM e1_ != 0)) (fun h5 => ?_) (fun h5 => ?_)
   ·
    refine AWp.hz [.run 2] 38 [(2, vi (checkM e1_))] [] 1 ?_
    refine AWp.ret ?_
    have hL1_ : allM_L1 l = some (checkM e1_) := scanN_some hs1_ (by omega) (by unfold allM_B1; (try simp only [he1_]); (try rw [h4]); (try rw [h5]); try kernel_rfl)
    exact leafR (r := vi (checkM e1_)) (by unfold allM; (try rw [h2]); (try rw [hL1_]); try kernel_rfl)
   ·
    refine AWp.skip ?_
    refine AWp.hzl [.run 2, .take Cluster.cells l 4 k1_ (by omega), .len Cluster.cells (l.take k1_) 4, .run 1] 38 [(allM_c1 l), (4, .ptr 0 0), (allM_c2 l), (allM_c3 l), (allM_c5 k1_), (allM_c6 l k1_), (allM_c7 l k1_), (27, vi 0)] [(allM_c4 e1_)] 1 (fun hl => ?_)
    obtain ⟨hn6, -⟩ := hl
    refine AWp.block ?_
    refine AWp.loop (ι := Nat) (fun k2_ => Z 38 [(allM_c1 l), (4, .ptr 0 0), (allM_c2 l), (allM_c3 l), (allM_c5 k1_), (allM_c6 l k1_), (allM_c7 l k1_), (27, vi (k2_ : Int))] [(allM_c4 e1_)] 1) (fun k2_ => k2_ ≤ ((l.take k1_).length) ∧ allM_L2 l k1_ e1_ = scanN (allM_B2 l k1_ e1_) k2_ (((l.take k1_).length) - k2_)) (fun k2_ => ((l.take k1_).length) - k2_) 0 leZ ⟨Nat.zero_le _, rfl⟩ ?_
    intro k2_ ⟨hk2_, hs2_⟩
    refine AWp.hz [.run 1] 38 [(allM_c1 l), (4, .ptr 0 0), (allM_c2 l), (allM_c3 l), (allM_c5 k1_), (allM_c6 l k1_), (allM_c7 l k1_), (27, vi (k2_ : Int)), (28, vb (decide ((k2_ : Int) < (((l.take k1_).length : Nat) : Int))))] [(allM_c4 e1_)] 1 ?_
    refine AWp.seq ?_
    refine AWp.cnd (decide ((k2_ : Int) < (((l.take k1_).length : Nat) : Int))) (fun h7 => ?_) (fun h7 => ?_)
    ·
     have h7' := of_decide_eq_true h7
     refine AWp.skip ?_
     refine AWp.seq ?_
     refine AWp.block ?_
     obtain ⟨e2_, he2_⟩ : ∃ e_, ((l.take k1_))[k2_]? = some e_ := ⟨_, List.getElem?_eq_getElem (by first | omega | (simp only [List.length_take]; omega))⟩
     refine AWp.hz [.idx Cluster.cells (l.take k1_) 4 k2_ e2_ he2_, .run 3] 38 [(allM_c1 l), (4, .ptr 0 0), (7, .ptr 1 0), (allM_c2 l), (allM_c3 l), (allM_c5 k1_), (allM_c6 l k1_), (allM_c7 l k1_), (27, vi (k2_ : Int))] [(1, .box 46 (avs (Cluster.cells e2_))), (allM_c4 e1_)] 2 ?_
     refine AWp.hz [.run 5] 38 [(allM_c1 l), (4, .ptr 0 0), (allM_c2 l), (allM_c3 l), (allM_c5 k1_), (allM_c6 l k1_), (allM_c7 l k1_), (27, vi (k2_ : Int)), (35, vb (beqS e2_.name e1_.name))] [(allM_c4 e1_)] 2 ?_
     refine AWp.cnd (beqS e2_.name e1_.name) (fun h8 => ?_) (fun h8 => ?_)
     ·
      refine AWp.hz [.run 1] 38 [(2, vi 9)] [] 2 ?_
      refine AWp.ret ?_
      have hL2_ : allM_L2 l k1_ e1_ = some 9 := scanN_some hs2_ (by omega) (by unfold allM_B2; (try simp only [he1_]); (try simp only [he2_]); (try rw [h7]); (try rw [h8]); try kernel_rfl)
      have hL1_ : allM_L1 l = some 9 := scanN_some hs1_ (by omega) (by unfold allM_B1; (try simp only [he1_]); (try simp only [he2_]); (try rw [h4]); (try rw [h5]); (try rw [h7]); (try rw [h8]); (try rw [hL2_]); try kernel_rfl)
      exact leafR (r := vi 9) (by unfold allM; (try rw [h2]); (try rw [hL1_]); try kernel_rfl)
     ·
      refine AWp.skip ?_
      refine AWp.he [.cast (vi (IntKind.i64.wrap ((k2_ : Int) + 1))) (vi ((k2_ + 1 : Nat) : Int)) (congrArg vi (wrap_nat (by omega))), .run 1] 38 [(allM_c1 l), (4, .ptr 0 0), (allM_c2 l), (allM_c3 l), (allM_c5 k1_), (allM_c6 l k1_), (allM_c7 l k1_), (27, vi ((k2_ + 1 : Nat) : Int))] [(allM_c4 e1_)] 2 ?_
      exact ⟨k2_ + 1, ⟨by omega, scanN_none hs2_ (by omega) (by unfold allM_B2; (try simp only [he1_]); (try simp only [he2_]); (try rw [h7]); (try rw [h8]); try kernel_rfl)⟩, by omega, leG⟩
    ·
     have h7' := of_decide_eq_false h7
     refine AWp.exit ?_
     have hL2_ : allM_L2 l k1_ e1_ = none := scanN_end hs2_ (by omega)
     refine AWp.he [.cast (vi (IntKind.i64.wrap ((k1_ : Int) + 1))) (vi ((k1_ + 1 : Nat) : Int)) (congrArg vi (wrap_nat (by omega))), .run 1] 38 [(allM_c1 l), (allM_c2 l), (allM_c3 l), (13, vi ((k1_ + 1 : Nat) : Int))] [] 1 ?_
     exact ⟨k1_ + 1, ⟨by omega, scanN_none hs1_ (by omega) (by unfold allM_B1; (try simp only [he1_]); (try rw [h4]); (try rw [h5]); (try rw [hL2_]); try kernel_rfl)⟩, by omega, leG⟩
  ·
   have h4' := of_decide_eq_false h4
   refine AWp.exit ?_
   have hL1_ : allM_L1 l = none := scanN_end hs1_ (by omega)
   refine AWp.hz [.run 1] 38 [(2, vi 0)] [] 0 ?_
   refine AWp.ret ?_
   exact leafR (r := vi 0) (by unfold allM; (try rw [h2]); (try rw [hL1_]); try kernel_rfl)
def rflagM (x : ByteArray) (u v : Bool) : Attr :=
 (⟨x, 1, 0, 0, [], u, v⟩ : Attr)
theorem rflagM_ok (x : ByteArray) (u v : Bool) :
 ACalls Try.prog G_ 66 [vs x, vb u, vb v] [] 0 (fun r τ => r = .agg (avs (Attr.cells (rflagM x u v))) ∧ τ = []) := by
 refine ACalls.body Try.func66 rfl 11 [(0, vs x), (1, vb u), (2, vb v)] ?_
 refine AWp.hz [.run 1] 11 [(0, vs x), (1, vb u), (2, vb v), (6, .ptr 0 0)] [(0, .box 48 [vs (⟨#[]⟩), vi 0, vi 0, vi 0, .rv (.v (.slice none 0 0)), vb false, vb false])] 1 ?_
 refine AWp.hz [.run 5] 11 [(6, .ptr 0 0)] [(0, .box 48 [vs x, vi 1, vi 0, vi 0, .rv (.v (.slice none 0 0)), vb u, vb v])] 1 ?_
 refine AWp.le (Le.nilsB (s' := Z 11 [(6, .ptr 0 0)] [(0, .box 48 [vs x, vi 1, vi 0, vi 0, .rv (.sl 1 (([]).map strC)), vb u, vb v])] 1) 0 [none, none, none, none, some 1, none, none] (by kernel_rfl)) ?_
 refine AWp.ret ?_
 exact leafR (r := .agg [vs x, vi 1, vi 0, vi 0, .rv (.sl 1 (([]).map strC)), vb u, vb v]) (by show (.agg [vs x, vi 1, vi 0, vi 0, .rv (.sl 1 (([]).map strC)), vb u, vb v] : AV) = .agg (avs (Attr.cells (rflagM x u v))); unfold rflagM; try kernel_rfl)
def rnumberM (x : ByteArray) (a b : Int) (u : Bool) : Attr :=
 (⟨x, 2, a, b, [], u, false⟩ : Attr)
theorem rnumberM_ok (x : ByteArray) (a b : Int) (u : Bool) :
 ACalls Try.prog G_ 65 [vs x, vi a, vi b, vb u] [] 0 (fun r τ => r = .agg (avs (Attr.cells (rnumberM x a b u))) ∧ τ = []) := by
 refine ACalls.body Try.func65 rfl 14 [(0, vs x), (1, vi a), (2, vi b), (3, vb u)] ?_
 refine AWp.hz [.run 1] 14 [(0, vs x), (1, vi a), (2, vi b), (3, vb u), (8, .ptr 0 0)] [(0, .box 48 [vs (⟨#[]⟩), vi 0, vi 0, vi 0, .rv (.v (.slice none 0 0)), vb false, vb false])] 1 ?_
 refine AWp.hz [.run 6] 14 [(8, .ptr 0 0)] [(0, .box 48 [vs x, vi 2, vi a, vi b, .rv (.v (.slice none 0 0)), vb u, vb false])] 1 ?_
 refine AWp.le (Le.nilsB (s' := Z 14 [(8, .ptr 0 0)] [(0, .box 48 [vs x, vi 2, vi a, vi b, .rv (.sl 1 (([]).map strC)), vb u, vb false])] 1) 0 [none, none, none, none, some 1, none, none] (by kernel_rfl)) ?_
 refine AWp.ret ?_
 exact leafR (r := .agg [vs x, vi 2, vi a, vi b, .rv (.sl 1 (([]).map strC)), vb u, vb false]) (by show (.agg [vs x, vi 2, vi a, vi b, .rv (.sl 1 (([]).map strC)), vb u, vb false] : AV) = .agg (avs (Attr.cells (rnumberM x a b u))); unfold rnumberM; try kernel_rfl)
def rsetsM (x y : ByteArray) (n : Int) : Command :=
 (⟨x, ⟨⟨#[]⟩, 0, 0, 0, [], false, false⟩, [(⟨1, y, n⟩ : Effect)]⟩ : Command)
theorem rsetsM_ok (x y : ByteArray) (n : Int) :
 ACalls Try.prog G_ 67 [vs x, vs y, vi n] [] 0 (fun r τ => r = .agg (avs (Command.cells (rsetsM x y n))) ∧ τ = []) := by
 refine ACalls.body Try.func67 rfl 13 [(0, vs x), (1, vs y), (2, vi n)] ?_
 refine AWp.hz [.run 1] 13 [(0, vs x), (1, vs y), (2, vi n), (6, .ptr 0 0)] [(0, .box 89 [vs (⟨#[]⟩), vs (⟨#[]⟩), vi 0, vi 0, vi 0, .rv (.v (.slice none 0 0)), vb false, vb false, .rv (.v (.slice none 0 0))])] 1 ?_
 refine AWp.hz [.run 4, .lit 86 3 (List.map Effect.cells [(⟨1, y, n⟩ : Effect)]), .run 2] 13 [(6, .ptr 0 0)] [(0, .box 89 [vs x, vs (⟨#[]⟩), vi 0, vi 0, vi 0, .rv (.v (.slice none 0 0)), vb false, vb false, .rv (.sl 3 (([(⟨1, y, n⟩ : Effect)]).map Effect.cells))])] 1 ?_
 refine AWp.le (Le.nilsB (s' := Z 13 [(6, .ptr 0 0)] [(0, .box 89 [vs x, vs (⟨#[]⟩), vi 0, vi 0, vi 0, .rv (.sl 1 (([]).map strC)), vb false, vb false, .rv (.sl 3 (([(⟨1, y, n⟩ : Effect)]).map Effect.cells))])] 1) 0 [none, none, none, none, none, some 1, none, none, none] (by kernel_rfl)) ?_
 refine AWp.ret ?_
 exact leafR (r := .agg [vs x, vs (⟨#[]⟩), vi 0, vi 0, vi 0, .rv (.sl 1 (([]).map strC)), vb false, vb false, .rv (.sl 3 (([(⟨1, y, n⟩ : Effect)]).map Effect.cells))]) (by show (.agg [vs x, vs (⟨#[]⟩), vi 0, vi 0, vi 0, .rv (.sl 1 (([]).map strC)), vb false, vb false, .rv (.sl 3 (([(⟨1, y, n⟩ : Effect)]).map Effect.cells))] : AV) = .agg (avs (Command.cells (rsetsM x y n))); unfold rsetsM; try kernel_rfl)
end Go.Proofs.Ytnnlaccdendkpaa
