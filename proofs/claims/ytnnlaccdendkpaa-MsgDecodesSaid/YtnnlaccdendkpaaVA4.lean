/- What is found: the contracts. -/
import Derived.Test.YtnnlaccdendkpaaVA3
namespace Go.Proofs.Ytnnlaccdendkpaa
open Go Go.Av Go.Hh Go.Proofs
set_option maxRecDepth 100000
set_option maxHeartbeats 4000000
def cloneSM (l : List ByteArray) : List ByteArray :=
 l
theorem cloneSM_ok (l : List ByteArray) (hw : l.length ≤ 1000000) :
 ACalls Try.prog G_ 90 [.rv (.sl 1 (l.map strC))] [] 0 (fun r τ => r = .rv (.sl 1 ((cloneSM l).map strC)) ∧ τ = []) := by
 refine ACalls.body Try.func90 rfl 8 [(0, .rv (.sl 1 (l.map strC)))] ?_
 refine AWp.hz [.run 1] 8 [(0, .rv (.sl 1 (l.map strC)))] [] 0 ?_
 refine AWp.seq ?_
 refine AWp.rg ?_
 refine AOps.hz [.run 1] 8 [(0, .rv (.sl 1 (l.map strC))), (3, .rv (.sl 1 (l.map strC)))] [] 0 ?_
 refine AOps.nilTest strC l 1 rfl rfl (e := 9) (by kernel_rfl) (by kernel_rfl) (fun nb1 hnb1 => ?_)
 refine AOps.he [] 8 [(0, .rv (.sl 1 (l.map strC))), (4, vb nb1)] [] 0 ?_
 refine AWp.cnd (nb1) (fun h2 => ?_) (fun h2 => ?_)
 ·
  refine AWp.hz [.run 1] 8 [(2, .rv (.v (.slice none 0 0)))] [] 0 ?_
  refine AWp.le (Le.nils (s' := Z 8 [(2, .rv (.sl 1 (([]).map strC)))] [] 0) 2 [some 1] (by kernel_rfl)) ?_
  refine AWp.ret ?_
  exact leafR (r := .rv (.sl 1 (([]).map strC))) (by show (.rv (.sl 1 (([]).map strC)) : AV) = .rv (.sl 1 ((cloneSM l).map strC)); unfold cloneSM; (try rw [hnb1 h2]); try kernel_rfl)
 ·
  refine AWp.skip ?_
  refine AWp.hz [.row 9 1 [], .run 1, .app strC ([]) l 0 9 1 16 (apSz (by simp; omega)), .run 1] 8 [(2, .sl 0)] [(0, .row false 9 1 (l.map strC))] 1 ?_
  refine AWp.le (Le.frz _ 0) ?_
  refine AWp.cv 8 [(2, .rv (.sl 1 (l.map strC)))] [] 1 ?_
  refine AWp.ret ?_
  exact leafR (r := .rv (.sl 1 (l.map strC))) (by show (.rv (.sl 1 (l.map strC)) : AV) = .rv (.sl 1 ((cloneSM l).map strC)); unfold cloneSM; try kernel_rfl)
def attrM_B1 (c : Cluster) (x : ByteArray) (k1_ : Nat) : Option (Attr × Bool) :=
 (match (c.attrs)[k1_]? with | some e1_ => (bif beqS e1_.name x then some (e1_, true) else none) | none => none)
def attrM_L1 (c : Cluster) (x : ByteArray) : Option (Attr × Bool) := scanN (attrM_B1 c x) 0 c.attrs.length
def attrM (c : Cluster) (x : ByteArray) : Attr × Bool :=
 ((attrM_L1 c x).getD ((⟨⟨#[]⟩, 0, 0, 0, [], false, false⟩ : Attr), false))
abbrev attrM_c1 : Nat × AObj := (1, .box 48 [vs (⟨#[]⟩), vi 0, vi 0, vi 0, .rv (.v (.slice none 0 0)), vb false, vb false])
abbrev attrM_c2 (c : Cluster) : Nat × AV := (9, .rv (.sl 7 (c.attrs.map Attr.cells)))
abbrev attrM_c3 (c : Cluster) : Nat × AV := (10, vi (c.attrs.length : Int))
theorem attrM_ok (c : Cluster) (x : ByteArray) (hw : FitA c) :
 ACalls Try.prog G_ 85 [.agg (avs (Cluster.cells c)), vs x] [] 0 (fun r τ => r = .tuple [.agg (avs (Attr.cells ((attrM c x).1))), vb ((attrM c x).2)] ∧ τ = []) := by
 refine ACalls.body Try.func85 rfl 26 [(0, .agg (avs (Cluster.cells c))), (1, vs x)] ?_
 refine AWp.hz [.run 3] 26 [(1, vs x), (2, .ptr 0 0), (4, .ptr 1 0)] [attrM_c1, (0, .box 46 (avs (Cluster.cells c)))] 2 ?_
 refine AWp.seq ?_
 refine AWp.hzl [.run 2, .len Attr.cells c.attrs 7, .run 1] 26 [(1, vs x), (4, .ptr 1 0), (attrM_c2 c), (attrM_c3 c), (11, vi 0)] [attrM_c1] 2 (fun hl => ?_)
 obtain ⟨hn1, -⟩ := hl
 refine AWp.block ?_
 refine AWp.loop (ι := Nat) (fun k1_ => Z 26 [(1, vs x), (4, .ptr 1 0), (attrM_c2 c), (attrM_c3 c), (11, vi (k1_ : Int))] [attrM_c1] 2) (fun k1_ => k1_ ≤ c.attrs.length ∧ attrM_L1 c x = scanN (attrM_B1 c x) k1_ (c.attrs.length - k1_)) (fun k1_ => c.attrs.length - k1_) 0 leZ ⟨Nat.zero_le _, rfl⟩ ?_
 intro k1_ ⟨hk1_, hs1_⟩
 refine AWp.hz [.run 1] 26 [(1, vs x), (4, .ptr 1 0), (attrM_c2 c), (attrM_c3 c), (11, vi (k1_ : Int)), (12, vb (decide ((k1_ : Int) < (c.attrs.length : Int))))] [attrM_c1] 2 ?_
 refine AWp.seq ?_
 refine AWp.cnd (decide ((k1_ : Int) < (c.attrs.length : Int))) (fun h2 => ?_) (fun h2 => ?_)
 ·
  have h2' := of_decide_eq_true h2
  refine AWp.skip ?_
  refine AWp.seq ?_
  refine AWp.block ?_
  obtain ⟨e1_, he1_⟩ : ∃ e_, (c.attrs)[k1_]? = some e_ := ⟨_, List.getElem?_eq_getElem (by omega)⟩
  refine AWp.hz [.idx Attr.cells c.attrs 7 k1_ e1_ he1_, .run 3] 26 [(1, vs x), (4, .ptr 1 0), (7, .ptr 2 0), (attrM_c2 c), (attrM_c3 c), (11, vi (k1_ : Int))] [(2, .box 48 (avs (Attr.cells e1_))), attrM_c1] 3 ?_
  refine AWp.hz [.run 4] 26 [(1, vs x), (4, .ptr 1 0), (7, .ptr 2 0), (attrM_c2 c), (attrM_c3 c), (11, vi (k1_ : Int)), (18, vb (beqS e1_.name x))] [(2, .box 48 (avs (Attr.cells e1_))), attrM_c1] 3 ?_
  refine AWp.cnd (beqS e1_.name x) (fun h3 => ?_) (fun h3 => ?_)
  ·
   refine AWp.hz [.run 2, .call 90 [.rv (.sl 1 (e1_.enum.map strC))] (.rv (.sl 1 (e1_.enum.map strC))) [] 0 (cloneSM_ok e1_.enum (by first | assumption | exact std_fit _ (List.mem_of_getElem? (by assumption)) | exact fit_s1 (by assumption) | exact std_fit | exact fun c hc => std_fit c (List.mem_of_mem_take (List.mem_of_mem_drop hc)) | exact Nat.le_trans (apply_len _ _ _ _) (by omega) | exact parts_fit (by assumption) | exact parts_fit (by assumption) _ (List.mem_of_getElem? (by assumption)) | (simp; done) | exact ⟨by simp, by simp⟩ | exact hw _ (List.mem_of_getElem? (by assumption)) | exact hw.1 _ (List.mem_of_getElem? (by assumption)) | exact (hw.2 _ (List.mem_of_getElem? (by assumption))).1 | exact (hw.2 _ (List.mem_of_getElem? (by assumption))).2 | omega | exact fit_take hw _)), .run 2] 26 [(4, .ptr 1 0), (7, .ptr 2 0)] [(2, .box 48 [vs e1_.name, vi e1_.kind, vi e1_.min, vi e1_.max, .rv (.sl 1 (e1_.enum.map strC)), vb e1_.writable, vb e1_.safety]), attrM_c1] 3 ?_
   refine AWp.hz [.run 3] 26 [(4, .ptr 1 0), (5, vb true)] [(1, .box 48 [vs e1_.name, vi e1_.kind, vi e1_.min, vi e1_.max, .rv (.sl 1 (e1_.enum.map strC)), vb e1_.writable, vb e1_.safety])] 3 ?_
   refine AWp.ret ?_
   have hL1_ : attrM_L1 c x = some (e1_, true) := scanN_some hs1_ (by omega) (by unfold attrM_B1; (try simp only [he1_]); (try rw [h2]); (try rw [h3]); try kernel_rfl)
   exact leafR (r := .tuple [.agg [vs e1_.name, vi e1_.kind, vi e1_.min, vi e1_.max, .rv (.sl 1 (e1_.enum.map strC)), vb e1_.writable, vb e1_.safety], vb true]) (by show (.tuple [.agg [vs e1_.name, vi e1_.kind, vi e1_.min, vi e1_.max, .rv (.sl 1 (e1_.enum.map strC)), vb e1_.writable, vb e1_.safety], vb true] : AV) = .tuple [.agg (avs (Attr.cells ((attrM c x).1))), vb ((attrM c x).2)]; unfold attrM; (try rw [hL1_]); try kernel_rfl)
  ·
   refine AWp.skip ?_
   refine AWp.he [.cast (vi (IntKind.i64.wrap ((k1_ : Int) + 1))) (vi ((k1_ + 1 : Nat) : Int)) (congrArg vi (wrap_nat (by omega))), .run 1] 26 [(1, vs x), (4, .ptr 1 0), (attrM_c2 c), (attrM_c3 c), (11, vi ((k1_ + 1 : Nat) : Int))] [attrM_c1] 3 ?_
   exact ⟨k1_ + 1, ⟨by omega, scanN_none hs1_ (by omega) (by unfold attrM_B1; (try simp only [he1_]); (try rw [h2]); (try rw [h3]); try kernel_rfl)⟩, by omega, leG⟩
 ·
  have h2' := of_decide_eq_false h2
  refine AWp.exit ?_
  have hL1_ : attrM_L1 c x = none := scanN_end hs1_ (by omega)
  refine AWp.hz [.run 3] 26 [(4, .ptr 1 0), (5, vb false)] [attrM_c1] 2 ?_
  refine AWp.le (Le.nilsB (s' := Z 26 [(4, .ptr 1 0), (5, vb false)] [(1, .box 48 [vs (⟨#[]⟩), vi 0, vi 0, vi 0, .rv (.sl 1 (([]).map strC)), vb false, vb false])] 2) 1 [none, none, none, none, some 1, none, none] (by kernel_rfl)) ?_
  refine AWp.ret ?_
  exact leafR (r := .tuple [.agg [vs (⟨#[]⟩), vi 0, vi 0, vi 0, .rv (.sl 1 (([]).map strC)), vb false, vb false], vb false]) (by show (.tuple [.agg [vs (⟨#[]⟩), vi 0, vi 0, vi 0, .rv (.sl 1 (([]).map strC)), vb false, vb false], vb false] : AV) = .tuple [.agg (avs (Attr.cells ((attrM c x).1))), vb ((attrM c x).2)]; unfold attrM; (try rw [hL1_]); try kernel_rfl)
end Go.Proofs.Ytnnlaccdendkpaa
