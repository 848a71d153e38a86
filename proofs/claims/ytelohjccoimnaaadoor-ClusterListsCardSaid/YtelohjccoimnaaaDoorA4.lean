/- What is found: the contracts. -/
import Derived.Test.YtelohjccoimnaaaDoorA3
namespace Go.Proofs.YtelohjccoimnaaaDoor
open Go Go.Av Go.Hh Go.Proofs
set_option maxRecDepth 100000
set_option maxHeartbeats 4000000
def cloneSM (l : List ByteArray) : List ByteArray :=
  l
theorem cloneSM_ok (l : List ByteArray) (hw : l.length ≤ 1000000) :
 ACalls Tryd.prog G_ 42 [.rv (.sl 1 (l.map strC))] [] 0 (fun r τ => r = .rv (.sl 1 ((cloneSM l).map strC)) ∧ τ = []) := by
 refine ACalls.body Tryd.func42 rfl 8 [(0, .rv (.sl 1 (l.map strC)))] ?_
 refine AWp.hz [.run 1] 8 [(0, .rv (.sl 1 (l.map strC)))] [] 0 ?_
 refine AWp.seq ?_
 refine AWp.rg ?_
 refine AOps.hz [.run 1] 8 [(0, .rv (.sl 1 (l.map strC))), (3, .rv (.sl 1 (l.map strC)))] [] 0 ?_
 refine AOps.nilTest strC l 1 rfl rfl (e := 9) (by kernel_rfl) (by kernel_rfl) (fun nb1 hnb1 => ?_)
 refine AOps.he [] 8 [(0, .rv (.sl 1 (l.map strC))), (4, vb nb1)] [] 0 ?_
 refine AWp.cnd (nb1) (fun h2 => ?_) (fun h2 => ?_)
 ·
  refine AWp.hz [.run 1] 8 [(2, .rv (.v (.slice none 0 0)))] [] 0 ?_
  refine AWp.le (Le.nils (s' := Z 8 [(2, .rv (.sl 1 (([]).map strC)))] [] 0) 2 [some 1] (by kernel_rfl)) ?_
  refine AWp.ret ?_
  exact leafR (r := .rv (.sl 1 (([]).map strC))) (by show (.rv (.sl 1 (([]).map strC)) : AV) = .rv (.sl 1 ((cloneSM l).map strC)); unfold cloneSM; (try rw [hnb1 h2]); first | done | kernel_rfl)
 ·
  refine AWp.skip ?_
  refine AWp.hz [.row 9 1 [], .run 1, .app strC ([]) l 0 9 1 16 (apSz (by simp; omega)), .run 1] 8 [(2, .sl 0)] [(0, .row false 9 1 (l.map strC))] 1 ?_
  refine AWp.le (Le.frz _ 0) ?_
  refine AWp.cv 8 [(2, .rv (.sl 1 (l.map strC)))] [] 1 ?_
  refine AWp.ret ?_
  exact leafR (r := .rv (.sl 1 (l.map strC))) (by show (.rv (.sl 1 (l.map strC)) : AV) = .rv (.sl 1 ((cloneSM l).map strC)); unfold cloneSM; first | done | kernel_rfl)
def cloneEM (l : List Effect) : List Effect :=
  l
theorem cloneEM_ok (l : List Effect) (hw : l.length ≤ 1000000) :
 ACalls Tryd.prog G_ 44 [.rv (.sl 3 (l.map Effect.cells))] [] 0 (fun r τ => r = .rv (.sl 3 ((cloneEM l).map Effect.cells)) ∧ τ = []) := by
 refine ACalls.body Tryd.func44 rfl 8 [(0, .rv (.sl 3 (l.map Effect.cells)))] ?_
 refine AWp.hz [.run 1] 8 [(0, .rv (.sl 3 (l.map Effect.cells)))] [] 0 ?_
 refine AWp.seq ?_
 refine AWp.rg ?_
 refine AOps.hz [.run 1] 8 [(0, .rv (.sl 3 (l.map Effect.cells))), (3, .rv (.sl 3 (l.map Effect.cells)))] [] 0 ?_
 refine AOps.nilTest Effect.cells l 3 rfl rfl (e := 52) (by kernel_rfl) (by kernel_rfl) (fun nb1 hnb1 => ?_)
 refine AOps.he [] 8 [(0, .rv (.sl 3 (l.map Effect.cells))), (4, vb nb1)] [] 0 ?_
 refine AWp.cnd (nb1) (fun h2 => ?_) (fun h2 => ?_)
 ·
  refine AWp.hz [.run 1] 8 [(2, .rv (.v (.slice none 0 0)))] [] 0 ?_
  refine AWp.le (Le.nils (s' := Z 8 [(2, .rv (.sl 3 (([]).map Effect.cells)))] [] 0) 2 [some 3] (by kernel_rfl)) ?_
  refine AWp.ret ?_
  exact leafR (r := .rv (.sl 3 (([]).map Effect.cells))) (by show (.rv (.sl 3 (([]).map Effect.cells)) : AV) = .rv (.sl 3 ((cloneEM l).map Effect.cells)); unfold cloneEM; (try rw [hnb1 h2]); first | done | kernel_rfl)
 ·
  refine AWp.skip ?_
  refine AWp.hz [.row 52 3 [], .run 1, .app Effect.cells ([]) l 0 52 3 32 (apSz (by simp; omega)), .run 1] 8 [(2, .sl 0)] [(0, .row false 52 3 (l.map Effect.cells))] 1 ?_
  refine AWp.le (Le.frz _ 0) ?_
  refine AWp.cv 8 [(2, .rv (.sl 3 (l.map Effect.cells)))] [] 1 ?_
  refine AWp.ret ?_
  exact leafR (r := .rv (.sl 3 (l.map Effect.cells))) (by show (.rv (.sl 3 (l.map Effect.cells)) : AV) = .rv (.sl 3 ((cloneEM l).map Effect.cells)); unfold cloneEM; first | done | kernel_rfl)
def cloneVM (l : List Val) : List Val :=
  l
theorem cloneVM_ok (l : List Val) (hw : l.length ≤ 1000000) :
 ACalls Tryd.prog G_ 46 [.rv (.sl 3 (l.map Val.cells))] [] 0 (fun r τ => r = .rv (.sl 3 ((cloneVM l).map Val.cells)) ∧ τ = []) := by
 refine ACalls.body Tryd.func46 rfl 8 [(0, .rv (.sl 3 (l.map Val.cells)))] ?_
 refine AWp.hz [.run 1] 8 [(0, .rv (.sl 3 (l.map Val.cells)))] [] 0 ?_
 refine AWp.seq ?_
 refine AWp.rg ?_
 refine AOps.hz [.run 1] 8 [(0, .rv (.sl 3 (l.map Val.cells))), (3, .rv (.sl 3 (l.map Val.cells)))] [] 0 ?_
 refine AOps.nilTest Val.cells l 3 rfl rfl (e := 44) (by kernel_rfl) (by kernel_rfl) (fun nb1 hnb1 => ?_)
 refine AOps.he [] 8 [(0, .rv (.sl 3 (l.map Val.cells))), (4, vb nb1)] [] 0 ?_
 refine AWp.cnd (nb1) (fun h2 => ?_) (fun h2 => ?_)
 ·
  refine AWp.hz [.run 1] 8 [(2, .rv (.v (.slice none 0 0)))] [] 0 ?_
  refine AWp.le (Le.nils (s' := Z 8 [(2, .rv (.sl 3 (([]).map Val.cells)))] [] 0) 2 [some 3] (by kernel_rfl)) ?_
  refine AWp.ret ?_
  exact leafR (r := .rv (.sl 3 (([]).map Val.cells))) (by show (.rv (.sl 3 (([]).map Val.cells)) : AV) = .rv (.sl 3 ((cloneVM l).map Val.cells)); unfold cloneVM; (try rw [hnb1 h2]); first | done | kernel_rfl)
 ·
  refine AWp.skip ?_
  refine AWp.hz [.row 44 3 [], .run 1, .app Val.cells ([]) l 0 44 3 32 (apSz (by simp; omega)), .run 1] 8 [(2, .sl 0)] [(0, .row false 44 3 (l.map Val.cells))] 1 ?_
  refine AWp.le (Le.frz _ 0) ?_
  refine AWp.cv 8 [(2, .rv (.sl 3 (l.map Val.cells)))] [] 1 ?_
  refine AWp.ret ?_
  exact leafR (r := .rv (.sl 3 (l.map Val.cells))) (by show (.rv (.sl 3 (l.map Val.cells)) : AV) = .rv (.sl 3 ((cloneVM l).map Val.cells)); unfold cloneVM; first | done | kernel_rfl)
def attrM_B1 (c : Cluster) (x : ByteArray) (k1_ : Nat) : Option (Attr × Bool) :=
  (match (c.attrs)[k1_]? with | some e1_ => (bif beqS e1_.name x then some (e1_, true) else none) | none => none)
def attrM_L1 (c : Cluster) (x : ByteArray) : Option (Attr × Bool) := scanN (attrM_B1 c x) 0 c.attrs.length
def attrM (c : Cluster) (x : ByteArray) : Attr × Bool :=
  ((attrM_L1 c x).getD ((⟨⟨#[]⟩, 0, 0, 0, [], false, false⟩ : Attr), false))
theorem attrM_ok (c : Cluster) (x : ByteArray) (hw : Fit c) :
 ACalls Tryd.prog G_ 15 [.agg (avs (Cluster.cells c)), vs x] [] 0 (fun r τ => r = .tuple [.agg (avs (Attr.cells ((attrM c x).1))), vb ((attrM c x).2)] ∧ τ = []) := by
 refine ACalls.body Tryd.func15 rfl 26 [(0, .agg (avs (Cluster.cells c))), (1, vs x)] ?_
 refine AWp.hz [.run 3] 26 [(1, vs x), (2, .ptr 0 0), (4, .ptr 1 0)] [(1, .box 32 [vs (⟨#[]⟩), vi 0, vi 0, vi 0, .rv (.v (.slice none 0 0)), vb false, vb false]), (0, .box 26 (avs (Cluster.cells c)))] 2 ?_
 refine AWp.seq ?_
 refine AWp.hzl [.run 2, .len Attr.cells c.attrs 7, .run 1] 26 [(1, vs x), (4, .ptr 1 0), (9, .rv (.sl 7 (c.attrs.map Attr.cells))), (10, vi ((c.attrs.length : Nat) : Int)), (11, vi 0)] [(1, .box 32 [vs (⟨#[]⟩), vi 0, vi 0, vi 0, .rv (.v (.slice none 0 0)), vb false, vb false])] 2 (fun hl => ?_)
 obtain ⟨hn1, -⟩ := hl
 refine AWp.block ?_
 refine AWp.loop (ι := Nat) (fun k1_ => Z 26 [(1, vs x), (4, .ptr 1 0), (9, .rv (.sl 7 (c.attrs.map Attr.cells))), (10, vi ((c.attrs.length : Nat) : Int)), (11, vi ((k1_ : Nat) : Int))] [(1, .box 32 [vs (⟨#[]⟩), vi 0, vi 0, vi 0, .rv (.v (.slice none 0 0)), vb false, vb false])] 2) (fun k1_ => k1_ ≤ c.attrs.length ∧ attrM_L1 c x = scanN (attrM_B1 c x) k1_ (c.attrs.length - k1_)) (fun k1_ => c.attrs.length - k1_) 0 leZ ⟨Nat.zero_le _, rfl⟩ ?_
 intro k1_ ⟨hk1_, hs1_⟩
 refine AWp.hz [.run 1] 26 [(1, vs x), (4, .ptr 1 0), (9, .rv (.sl 7 (c.attrs.map Attr.cells))), (10, vi ((c.attrs.length : Nat) : Int)), (11, vi ((k1_ : Nat) : Int)), (12, vb (decide (((k1_ : Nat) : Int) < ((c.attrs.length : Nat) : Int))))] [(1, .box 32 [vs (⟨#[]⟩), vi 0, vi 0, vi 0, .rv (.v (.slice none 0 0)), vb false, vb false])] 2 ?_
 refine AWp.seq ?_
 refine AWp.cnd (decide (((k1_ : Nat) : Int) < ((c.attrs.length : Nat) : Int))) (fun h2 => ?_) (fun h2 => ?_)
 ·
  have h2' := of_decide_eq_true h2
  refine AWp.skip ?_
  refine AWp.seq ?_
  refine AWp.block ?_
  obtain ⟨e1_, he1_⟩ : ∃ e_, (c.attrs)[k1_]? = some e_ := ⟨_, List.getElem?_eq_getElem (by omega)⟩
  refine AWp.hz [.idx Attr.cells c.attrs 7 k1_ e1_ he1_, .run 3] 26 [(1, vs x), (4, .ptr 1 0), (7, .ptr 2 0), (9, .rv (.sl 7 (c.attrs.map Attr.cells))), (10, vi ((c.attrs.length : Nat) : Int)), (11, vi ((k1_ : Nat) : Int))] [(2, .box 32 (avs (Attr.cells e1_))), (1, .box 32 [vs (⟨#[]⟩), vi 0, vi 0, vi 0, .rv (.v (.slice none 0 0)), vb false, vb false])] 3 ?_
  refine AWp.hz [.run 4] 26 [(1, vs x), (4, .ptr 1 0), (7, .ptr 2 0), (9, .rv (.sl 7 (c.attrs.map Attr.cells))), (10, vi ((c.attrs.length : Nat) : Int)), (11, vi ((k1_ : Nat) : Int)), (18, vb (beqS e1_.name x))] [(2, .box 32 (avs (Attr.cells e1_))), (1, .box 32 [vs (⟨#[]⟩), vi 0, vi 0, vi 0, .rv (.v (.slice none 0 0)), vb false, vb false])] 3 ?_
  refine AWp.cnd (beqS e1_.name x) (fun h3 => ?_) (fun h3 => ?_)
  ·
   refine AWp.hz [.run 2, .call 42 [.rv (.sl 1 (e1_.enum.map strC))] (.rv (.sl 1 (e1_.enum.map strC))) [] 0 (cloneSM_ok e1_.enum (by first | assumption | exact std_fit _ (List.mem_of_getElem? (by assumption)) | exact fit_s1 (by assumption) | exact std_fit | exact fun c hc => std_fit c (List.mem_of_mem_take (List.mem_of_mem_drop hc)) | exact Nat.le_trans (apply_len _ _ _ _) (by omega) | exact parts_fit (by assumption) | exact parts_fit (by assumption) _ (List.mem_of_getElem? (by assumption)) | (simp; done) | exact ⟨by simp, by simp⟩ | exact hw _ (List.mem_of_getElem? (by assumption)) | exact hw.1 _ (List.mem_of_getElem? (by assumption)) | exact (hw.2 _ (List.mem_of_getElem? (by assumption))).1 | exact (hw.2 _ (List.mem_of_getElem? (by assumption))).2 | omega | exact fit_take hw _)), .run 2] 26 [(4, .ptr 1 0), (7, .ptr 2 0)] [(2, .box 32 [vs e1_.name, vi e1_.kind, vi e1_.min, vi e1_.max, .rv (.sl 1 (e1_.enum.map strC)), vb e1_.writable, vb e1_.safety]), (1, .box 32 [vs (⟨#[]⟩), vi 0, vi 0, vi 0, .rv (.v (.slice none 0 0)), vb false, vb false])] 3 ?_
   refine AWp.hz [.run 3] 26 [(4, .ptr 1 0), (5, vb true)] [(1, .box 32 [vs e1_.name, vi e1_.kind, vi e1_.min, vi e1_.max, .rv (.sl 1 (e1_.enum.map strC)), vb e1_.writable, vb e1_.safety])] 3 ?_
   refine AWp.ret ?_
   have hL1_ : attrM_L1 c x = some (e1_, true) := scanN_some hs1_ (by omega) (by unfold attrM_B1; (try simp only [he1_]); (try rw [h2]); (try rw [h3]); first | done | kernel_rfl)
   exact leafR (r := .tuple [.agg [vs e1_.name, vi e1_.kind, vi e1_.min, vi e1_.max, .rv (.sl 1 (e1_.enum.map strC)), vb e1_.writable, vb e1_.safety], vb true]) (by show (.tuple [.agg [vs e1_.name, vi e1_.kind, vi e1_.min, vi e1_.max, .rv (.sl 1 (e1_.enum.map strC)), vb e1_.writable, vb e1_.safety], vb true] : AV) = .tuple [.agg (avs (Attr.cells ((attrM c x).1))), vb ((attrM c x).2)]; unfold attrM; (try rw [hL1_]); first | done | kernel_rfl)
  ·
   refine AWp.skip ?_
   refine AWp.he [.cast (vi (IntKind.i64.wrap (((k1_ : Nat) : Int) + 1))) (vi ((k1_ + 1 : Nat) : Int)) (congrArg vi (wrap_nat (by omega))), .run 1] 26 [(1, vs x), (4, .ptr 1 0), (9, .rv (.sl 7 (c.attrs.map Attr.cells))), (10, vi ((c.attrs.length : Nat) : Int)), (11, vi ((k1_ + 1 : Nat) : Int))] [(1, .box 32 [vs (⟨#[]⟩), vi 0, vi 0, vi 0, .rv (.v (.slice none 0 0)), vb false, vb false])] 3 ?_
   exact ⟨k1_ + 1, ⟨by omega, scanN_none hs1_ (by omega) (by unfold attrM_B1; (try simp only [he1_]); (try rw [h2]); (try rw [h3]); first | done | kernel_rfl)⟩, by omega, leG⟩
 ·
  have h2' := of_decide_eq_false h2
  refine AWp.exit ?_
  have hL1_ : attrM_L1 c x = none := scanN_end hs1_ (by omega)
  refine AWp.hz [.run 3] 26 [(4, .ptr 1 0), (5, vb false)] [(1, .box 32 [vs (⟨#[]⟩), vi 0, vi 0, vi 0, .rv (.v (.slice none 0 0)), vb false, vb false])] 2 ?_
  refine AWp.le (Le.nilsB (s' := Z 26 [(4, .ptr 1 0), (5, vb false)] [(1, .box 32 [vs (⟨#[]⟩), vi 0, vi 0, vi 0, .rv (.sl 1 (([]).map strC)), vb false, vb false])] 2) 1 [none, none, none, none, some 1, none, none] (by kernel_rfl)) ?_
  refine AWp.ret ?_
  exact leafR (r := .tuple [.agg [vs (⟨#[]⟩), vi 0, vi 0, vi 0, .rv (.sl 1 (([]).map strC)), vb false, vb false], vb false]) (by show (.tuple [.agg [vs (⟨#[]⟩), vi 0, vi 0, vi 0, .rv (.sl 1 (([]).map strC)), vb false, vb false], vb false] : AV) = .tuple [.agg (avs (Attr.cells ((attrM c x).1))), vb ((attrM c x).2)]; unfold attrM; (try rw [hL1_]); first | done | kernel_rfl)
def commandM_B1 (c : Cluster) (x : ByteArray) (k1_ : Nat) : Option (Command × Bool) :=
  (match (c.commands)[k1_]? with | some e1_ => (bif beqS e1_.name x then some (e1_, true) else none) | none => none)
def commandM_L1 (c : Cluster) (x : ByteArray) : Option (Command × Bool) := scanN (commandM_B1 c x) 0 c.commands.length
def commandM (c : Cluster) (x : ByteArray) : Command × Bool :=
  ((commandM_L1 c x).getD ((⟨⟨#[]⟩, ⟨⟨#[]⟩, 0, 0, 0, [], false, false⟩, []⟩ : Command), false))
theorem commandM_ok (c : Cluster) (x : ByteArray) (hw : Fit c) :
 ACalls Tryd.prog G_ 18 [.agg (avs (Cluster.cells c)), vs x] [] 0 (fun r τ => r = .tuple [.agg (avs (Command.cells ((commandM c x).1))), vb ((commandM c x).2)] ∧ τ = []) := by
 refine ACalls.body Tryd.func18 rfl 32 [(0, .agg (avs (Cluster.cells c))), (1, vs x)] ?_
 refine AWp.hz [.run 3] 32 [(1, vs x), (2, .ptr 0 0), (4, .ptr 1 0)] [(1, .box 38 [vs (⟨#[]⟩), vs (⟨#[]⟩), vi 0, vi 0, vi 0, .rv (.v (.slice none 0 0)), vb false, vb false, .rv (.v (.slice none 0 0))]), (0, .box 26 (avs (Cluster.cells c)))] 2 ?_
 refine AWp.seq ?_
 refine AWp.hzl [.run 2, .len Command.cells c.commands 9, .run 1] 32 [(1, vs x), (4, .ptr 1 0), (9, .rv (.sl 9 (c.commands.map Command.cells))), (10, vi ((c.commands.length : Nat) : Int)), (11, vi 0)] [(1, .box 38 [vs (⟨#[]⟩), vs (⟨#[]⟩), vi 0, vi 0, vi 0, .rv (.v (.slice none 0 0)), vb false, vb false, .rv (.v (.slice none 0 0))])] 2 (fun hl => ?_)
 obtain ⟨hn1, -⟩ := hl
 refine AWp.block ?_
 refine AWp.loop (ι := Nat) (fun k1_ => Z 32 [(1, vs x), (4, .ptr 1 0), (9, .rv (.sl 9 (c.commands.map Command.cells))), (10, vi ((c.commands.length : Nat) : Int)), (11, vi ((k1_ : Nat) : Int))] [(1, .box 38 [vs (⟨#[]⟩), vs (⟨#[]⟩), vi 0, vi 0, vi 0, .rv (.v (.slice none 0 0)), vb false, vb false, .rv (.v (.slice none 0 0))])] 2) (fun k1_ => k1_ ≤ c.commands.length ∧ commandM_L1 c x = scanN (commandM_B1 c x) k1_ (c.commands.length - k1_)) (fun k1_ => c.commands.length - k1_) 0 leZ ⟨Nat.zero_le _, rfl⟩ ?_
 intro k1_ ⟨hk1_, hs1_⟩
 refine AWp.hz [.run 1] 32 [(1, vs x), (4, .ptr 1 0), (9, .rv (.sl 9 (c.commands.map Command.cells))), (10, vi ((c.commands.length : Nat) : Int)), (11, vi ((k1_ : Nat) : Int)), (12, vb (decide (((k1_ : Nat) : Int) < ((c.commands.length : Nat) : Int))))] [(1, .box 38 [vs (⟨#[]⟩), vs (⟨#[]⟩), vi 0, vi 0, vi 0, .rv (.v (.slice none 0 0)), vb false, vb false, .rv (.v (.slice none 0 0))])] 2 ?_
 refine AWp.seq ?_
 refine AWp.cnd (decide (((k1_ : Nat) : Int) < ((c.commands.length : Nat) : Int))) (fun h2 => ?_) (fun h2 => ?_)
 ·
  have h2' := of_decide_eq_true h2
  refine AWp.skip ?_
  refine AWp.seq ?_
  refine AWp.block ?_
  obtain ⟨e1_, he1_⟩ : ∃ e_, (c.commands)[k1_]? = some e_ := ⟨_, List.getElem?_eq_getElem (by omega)⟩
  refine AWp.hz [.idx Command.cells c.commands 9 k1_ e1_ he1_, .run 3] 32 [(1, vs x), (4, .ptr 1 0), (7, .ptr 2 0), (9, .rv (.sl 9 (c.commands.map Command.cells))), (10, vi ((c.commands.length : Nat) : Int)), (11, vi ((k1_ : Nat) : Int))] [(2, .box 38 (avs (Command.cells e1_))), (1, .box 38 [vs (⟨#[]⟩), vs (⟨#[]⟩), vi 0, vi 0, vi 0, .rv (.v (.slice none 0 0)), vb false, vb false, .rv (.v (.slice none 0 0))])] 3 ?_
  refine AWp.hz [.run 4] 32 [(1, vs x), (4, .ptr 1 0), (7, .ptr 2 0), (9, .rv (.sl 9 (c.commands.map Command.cells))), (10, vi ((c.commands.length : Nat) : Int)), (11, vi ((k1_ : Nat) : Int)), (18, vb (beqS e1_.name x))] [(2, .box 38 (avs (Command.cells e1_))), (1, .box 38 [vs (⟨#[]⟩), vs (⟨#[]⟩), vi 0, vi 0, vi 0, .rv (.v (.slice none 0 0)), vb false, vb false, .rv (.v (.slice none 0 0))])] 3 ?_
  refine AWp.cnd (beqS e1_.name x) (fun h3 => ?_) (fun h3 => ?_)
  ·
   refine AWp.hz [.run 3, .call 42 [.rv (.sl 1 (e1_.param.enum.map strC))] (.rv (.sl 1 (e1_.param.enum.map strC))) [] 0 (cloneSM_ok e1_.param.enum (by first | assumption | exact std_fit _ (List.mem_of_getElem? (by assumption)) | exact fit_s1 (by assumption) | exact std_fit | exact fun c hc => std_fit c (List.mem_of_mem_take (List.mem_of_mem_drop hc)) | exact Nat.le_trans (apply_len _ _ _ _) (by omega) | exact parts_fit (by assumption) | exact parts_fit (by assumption) _ (List.mem_of_getElem? (by assumption)) | (simp; done) | exact ⟨by simp, by simp⟩ | exact hw _ (List.mem_of_getElem? (by assumption)) | exact hw.1 _ (List.mem_of_getElem? (by assumption)) | exact (hw.2 _ (List.mem_of_getElem? (by assumption))).1 | exact (hw.2 _ (List.mem_of_getElem? (by assumption))).2 | omega | exact fit_take hw _)), .run 3] 32 [(4, .ptr 1 0), (7, .ptr 2 0)] [(2, .box 38 [vs e1_.name, vs e1_.param.name, vi e1_.param.kind, vi e1_.param.min, vi e1_.param.max, .rv (.sl 1 (e1_.param.enum.map strC)), vb e1_.param.writable, vb e1_.param.safety, .rv (.sl 3 (e1_.effects.map Effect.cells))]), (1, .box 38 [vs (⟨#[]⟩), vs (⟨#[]⟩), vi 0, vi 0, vi 0, .rv (.v (.slice none 0 0)), vb false, vb false, .rv (.v (.slice none 0 0))])] 3 ?_
   refine AWp.hz [.run 2, .call 44 [.rv (.sl 3 (e1_.effects.map Effect.cells))] (.rv (.sl 3 (e1_.effects.map Effect.cells))) [] 0 (cloneEM_ok e1_.effects (by first | assumption | exact std_fit _ (List.mem_of_getElem? (by assumption)) | exact fit_s1 (by assumption) | exact std_fit | exact fun c hc => std_fit c (List.mem_of_mem_take (List.mem_of_mem_drop hc)) | exact Nat.le_trans (apply_len _ _ _ _) (by omega) | exact parts_fit (by assumption) | exact parts_fit (by assumption) _ (List.mem_of_getElem? (by assumption)) | (simp; done) | exact ⟨by simp, by simp⟩ | exact hw _ (List.mem_of_getElem? (by assumption)) | exact hw.1 _ (List.mem_of_getElem? (by assumption)) | exact (hw.2 _ (List.mem_of_getElem? (by assumption))).1 | exact (hw.2 _ (List.mem_of_getElem? (by assumption))).2 | omega | exact fit_take hw _)), .run 2] 32 [(4, .ptr 1 0), (7, .ptr 2 0)] [(2, .box 38 [vs e1_.name, vs e1_.param.name, vi e1_.param.kind, vi e1_.param.min, vi e1_.param.max, .rv (.sl 1 (e1_.param.enum.map strC)), vb e1_.param.writable, vb e1_.param.safety, .rv (.sl 3 (e1_.effects.map Effect.cells))]), (1, .box 38 [vs (⟨#[]⟩), vs (⟨#[]⟩), vi 0, vi 0, vi 0, .rv (.v (.slice none 0 0)), vb false, vb false, .rv (.v (.slice none 0 0))])] 3 ?_
   refine AWp.hz [.run 3] 32 [(4, .ptr 1 0), (5, vb true)] [(1, .box 38 [vs e1_.name, vs e1_.param.name, vi e1_.param.kind, vi e1_.param.min, vi e1_.param.max, .rv (.sl 1 (e1_.param.enum.map strC)), vb e1_.param.writable, vb e1_.param.safety, .rv (.sl 3 (e1_.effects.map Effect.cells))])] 3 ?_
   refine AWp.ret ?_
   have hL1_ : commandM_L1 c x = some (e1_, true) := scanN_some hs1_ (by omega) (by unfold commandM_B1; (try simp only [he1_]); (try rw [h2]); (try rw [h3]); first | done | kernel_rfl)
   exact leafR (r := .tuple [.agg [vs e1_.name, vs e1_.param.name, vi e1_.param.kind, vi e1_.param.min, vi e1_.param.max, .rv (.sl 1 (e1_.param.enum.map strC)), vb e1_.param.writable, vb e1_.param.safety, .rv (.sl 3 (e1_.effects.map Effect.cells))], vb true]) (by show (.tuple [.agg [vs e1_.name, vs e1_.param.name, vi e1_.param.kind, vi e1_.param.min, vi e1_.param.max, .rv (.sl 1 (e1_.param.enum.map strC)), vb e1_.param.writable, vb e1_.param.safety, .rv (.sl 3 (e1_.effects.map Effect.cells))], vb true] : AV) = .tuple [.agg (avs (Command.cells ((commandM c x).1))), vb ((commandM c x).2)]; unfold commandM; (try rw [hL1_]); first | done | kernel_rfl)
  ·
   refine AWp.skip ?_
   refine AWp.he [.cast (vi (IntKind.i64.wrap (((k1_ : Nat) : Int) + 1))) (vi ((k1_ + 1 : Nat) : Int)) (congrArg vi (wrap_nat (by omega))), .run 1] 32 [(1, vs x), (4, .ptr 1 0), (9, .rv (.sl 9 (c.commands.map Command.cells))), (10, vi ((c.commands.length : Nat) : Int)), (11, vi ((k1_ + 1 : Nat) : Int))] [(1, .box 38 [vs (⟨#[]⟩), vs (⟨#[]⟩), vi 0, vi 0, vi 0, .rv (.v (.slice none 0 0)), vb false, vb false, .rv (.v (.slice none 0 0))])] 3 ?_
   exact ⟨k1_ + 1, ⟨by omega, scanN_none hs1_ (by omega) (by unfold commandM_B1; (try simp only [he1_]); (try rw [h2]); (try rw [h3]); first | done | kernel_rfl)⟩, by omega, leG⟩
 ·
  have h2' := of_decide_eq_false h2
  refine AWp.exit ?_
  have hL1_ : commandM_L1 c x = none := scanN_end hs1_ (by omega)
  refine AWp.hz [.run 3] 32 [(4, .ptr 1 0), (5, vb false)] [(1, .box 38 [vs (⟨#[]⟩), vs (⟨#[]⟩), vi 0, vi 0, vi 0, .rv (.v (.slice none 0 0)), vb false, vb false, .rv (.v (.slice none 0 0))])] 2 ?_
  refine AWp.le (Le.nilsB (s' := Z 32 [(4, .ptr 1 0), (5, vb false)] [(1, .box 38 [vs (⟨#[]⟩), vs (⟨#[]⟩), vi 0, vi 0, vi 0, .rv (.sl 1 (([]).map strC)), vb false, vb false, .rv (.sl 3 (([]).map Effect.cells))])] 2) 1 [none, none, none, none, none, some 1, none, none, some 3] (by kernel_rfl)) ?_
  refine AWp.ret ?_
  exact leafR (r := .tuple [.agg [vs (⟨#[]⟩), vs (⟨#[]⟩), vi 0, vi 0, vi 0, .rv (.sl 1 (([]).map strC)), vb false, vb false, .rv (.sl 3 (([]).map Effect.cells))], vb false]) (by show (.tuple [.agg [vs (⟨#[]⟩), vs (⟨#[]⟩), vi 0, vi 0, vi 0, .rv (.sl 1 (([]).map strC)), vb false, vb false, .rv (.sl 3 (([]).map Effect.cells))], vb false] : AV) = .tuple [.agg (avs (Command.cells ((commandM c x).1))), vb ((commandM c x).2)]; unfold commandM; (try rw [hL1_]); first | done | kernel_rfl)
def rcommandM_B1 (c : Cluster) (x : ByteArray) (k1_ : Nat) : Option (Command × Bool) :=
  (match (c.commands)[k1_]? with | some e1_ => (bif beqS e1_.name x then some (e1_, true) else none) | none => none)
def rcommandM_L1 (c : Cluster) (x : ByteArray) : Option (Command × Bool) := scanN (rcommandM_B1 c x) 0 c.commands.length
def rcommandM (c : Cluster) (x : ByteArray) : Command × Bool :=
  ((rcommandM_L1 c x).getD ((⟨⟨#[]⟩, ⟨⟨#[]⟩, 0, 0, 0, [], false, false⟩, []⟩ : Command), false))
theorem rcommandM_ok (c : Cluster) (x : ByteArray) :
 ACalls Tryd.prog G_ 19 [.agg (avs (Cluster.cells c)), vs x] [] 0 (fun r τ => r = .tuple [.agg (avs (Command.cells ((rcommandM c x).1))), vb ((rcommandM c x).2)] ∧ τ = []) := by
 refine ACalls.body Tryd.func19 rfl 28 [(0, .agg (avs (Cluster.cells c))), (1, vs x)] ?_
 refine AWp.hz [.run 3] 28 [(1, vs x), (2, .ptr 0 0), (4, .ptr 1 0)] [(1, .box 38 [vs (⟨#[]⟩), vs (⟨#[]⟩), vi 0, vi 0, vi 0, .rv (.v (.slice none 0 0)), vb false, vb false, .rv (.v (.slice none 0 0))]), (0, .box 26 (avs (Cluster.cells c)))] 2 ?_
 refine AWp.seq ?_
 refine AWp.hzl [.run 2, .len Command.cells c.commands 9, .run 1] 28 [(1, vs x), (2, .ptr 0 0), (4, .ptr 1 0), (9, vi ((c.commands.length : Nat) : Int)), (10, vi 0)] [(1, .box 38 [vs (⟨#[]⟩), vs (⟨#[]⟩), vi 0, vi 0, vi 0, .rv (.v (.slice none 0 0)), vb false, vb false, .rv (.v (.slice none 0 0))]), (0, .box 26 (avs (Cluster.cells c)))] 2 (fun hl => ?_)
 obtain ⟨hn1, -⟩ := hl
 refine AWp.block ?_
 refine AWp.loop (ι := Nat) (fun k1_ => Z 28 [(1, vs x), (2, .ptr 0 0), (4, .ptr 1 0), (9, vi ((c.commands.length : Nat) : Int)), (10, vi ((k1_ : Nat) : Int))] [(1, .box 38 [vs (⟨#[]⟩), vs (⟨#[]⟩), vi 0, vi 0, vi 0, .rv (.v (.slice none 0 0)), vb false, vb false, .rv (.v (.slice none 0 0))]), (0, .box 26 (avs (Cluster.cells c)))] 2) (fun k1_ => k1_ ≤ c.commands.length ∧ rcommandM_L1 c x = scanN (rcommandM_B1 c x) k1_ (c.commands.length - k1_)) (fun k1_ => c.commands.length - k1_) 0 leZ ⟨Nat.zero_le _, rfl⟩ ?_
 intro k1_ ⟨hk1_, hs1_⟩
 refine AWp.hz [.run 1] 28 [(1, vs x), (2, .ptr 0 0), (4, .ptr 1 0), (9, vi ((c.commands.length : Nat) : Int)), (10, vi ((k1_ : Nat) : Int)), (11, vb (decide (((k1_ : Nat) : Int) < ((c.commands.length : Nat) : Int))))] [(1, .box 38 [vs (⟨#[]⟩), vs (⟨#[]⟩), vi 0, vi 0, vi 0, .rv (.v (.slice none 0 0)), vb false, vb false, .rv (.v (.slice none 0 0))]), (0, .box 26 (avs (Cluster.cells c)))] 2 ?_
 refine AWp.seq ?_
 refine AWp.cnd (decide (((k1_ : Nat) : Int) < ((c.commands.length : Nat) : Int))) (fun h2 => ?_) (fun h2 => ?_)
 ·
  have h2' := of_decide_eq_true h2
  refine AWp.skip ?_
  refine AWp.seq ?_
  refine AWp.block ?_
  refine AWp.hz [.run 2] 28 [(1, vs x), (2, .ptr 0 0), (4, .ptr 1 0), (6, vi ((k1_ : Nat) : Int)), (9, vi ((c.commands.length : Nat) : Int)), (10, vi ((k1_ : Nat) : Int))] [(1, .box 38 [vs (⟨#[]⟩), vs (⟨#[]⟩), vi 0, vi 0, vi 0, .rv (.v (.slice none 0 0)), vb false, vb false, .rv (.v (.slice none 0 0))]), (0, .box 26 (avs (Cluster.cells c)))] 2 ?_
  obtain ⟨e1_, he1_⟩ : ∃ e_, (c.commands)[k1_]? = some e_ := ⟨_, List.getElem?_eq_getElem (by omega)⟩
  refine AWp.hz [.run 3, .idx Command.cells c.commands 9 k1_ e1_ he1_, .run 4] 28 [(1, vs x), (2, .ptr 0 0), (4, .ptr 1 0), (6, vi ((k1_ : Nat) : Int)), (9, vi ((c.commands.length : Nat) : Int)), (10, vi ((k1_ : Nat) : Int)), (20, vb (beqS e1_.name x))] [(1, .box 38 [vs (⟨#[]⟩), vs (⟨#[]⟩), vi 0, vi 0, vi 0, .rv (.v (.slice none 0 0)), vb false, vb false, .rv (.v (.slice none 0 0))]), (0, .box 26 (avs (Cluster.cells c)))] 2 ?_
  refine AWp.cnd (beqS e1_.name x) (fun h3 => ?_) (fun h3 => ?_)
  ·
   refine AWp.hz [.run 3, .idx Command.cells c.commands 9 k1_ e1_ he1_, .run 3] 28 [(4, .ptr 1 0), (5, vb true)] [(1, .box 38 (avs (Command.cells e1_)))] 2 ?_
   refine AWp.ret ?_
   have hL1_ : rcommandM_L1 c x = some (e1_, true) := scanN_some hs1_ (by omega) (by unfold rcommandM_B1; (try simp only [he1_]); (try rw [h2]); (try rw [h3]); first | done | kernel_rfl)
   exact leafR (r := .tuple [.agg (avs (Command.cells e1_)), vb true]) (by show (.tuple [.agg (avs (Command.cells e1_)), vb true] : AV) = .tuple [.agg (avs (Command.cells ((rcommandM c x).1))), vb ((rcommandM c x).2)]; unfold rcommandM; (try rw [hL1_]); first | done | kernel_rfl)
  ·
   refine AWp.skip ?_
   refine AWp.he [.cast (vi (IntKind.i64.wrap (((k1_ : Nat) : Int) + 1))) (vi ((k1_ + 1 : Nat) : Int)) (congrArg vi (wrap_nat (by omega))), .run 1] 28 [(1, vs x), (2, .ptr 0 0), (4, .ptr 1 0), (9, vi ((c.commands.length : Nat) : Int)), (10, vi ((k1_ + 1 : Nat) : Int))] [(1, .box 38 [vs (⟨#[]⟩), vs (⟨#[]⟩), vi 0, vi 0, vi 0, .rv (.v (.slice none 0 0)), vb false, vb false, .rv (.v (.slice none 0 0))]), (0, .box 26 (avs (Cluster.cells c)))] 2 ?_
   exact ⟨k1_ + 1, ⟨by omega, scanN_none hs1_ (by omega) (by unfold rcommandM_B1; (try simp only [he1_]); (try rw [h2]); (try rw [h3]); first | done | kernel_rfl)⟩, by omega, leG⟩
 ·
  have h2' := of_decide_eq_false h2
  refine AWp.exit ?_
  have hL1_ : rcommandM_L1 c x = none := scanN_end hs1_ (by omega)
  refine AWp.hz [.run 3] 28 [(4, .ptr 1 0), (5, vb false)] [(1, .box 38 [vs (⟨#[]⟩), vs (⟨#[]⟩), vi 0, vi 0, vi 0, .rv (.v (.slice none 0 0)), vb false, vb false, .rv (.v (.slice none 0 0))])] 2 ?_
  refine AWp.le (Le.nilsB (s' := Z 28 [(4, .ptr 1 0), (5, vb false)] [(1, .box 38 [vs (⟨#[]⟩), vs (⟨#[]⟩), vi 0, vi 0, vi 0, .rv (.sl 1 (([]).map strC)), vb false, vb false, .rv (.sl 3 (([]).map Effect.cells))])] 2) 1 [none, none, none, none, none, some 1, none, none, some 3] (by kernel_rfl)) ?_
  refine AWp.ret ?_
  exact leafR (r := .tuple [.agg [vs (⟨#[]⟩), vs (⟨#[]⟩), vi 0, vi 0, vi 0, .rv (.sl 1 (([]).map strC)), vb false, vb false, .rv (.sl 3 (([]).map Effect.cells))], vb false]) (by show (.tuple [.agg [vs (⟨#[]⟩), vs (⟨#[]⟩), vi 0, vi 0, vi 0, .rv (.sl 1 (([]).map strC)), vb false, vb false, .rv (.sl 3 (([]).map Effect.cells))], vb false] : AV) = .tuple [.agg (avs (Command.cells ((rcommandM c x).1))), vb ((rcommandM c x).2)]; unfold rcommandM; (try rw [hL1_]); first | done | kernel_rfl)
end Go.Proofs.YtelohjccoimnaaaDoor
