/- Checks: the contracts. -/
import Derived.Test.YtnnlaccdendkpaaVA5
namespace Go.Proofs.Ytnnlaccdendkpaa
open Go Go.Av Go.Hh Go.Proofs
set_option maxRecDepth 100000
set_option maxHeartbeats 4000000
def numberedM_B1 (c : Cluster) (i : Nat) (e1_ : Command) (k1_ : Nat) : Option Int :=
 (match ((c.commands.take i))[k1_]? with | some e2_ => (bif beqS e2_.name e1_.name then some 9 else none) | none => none)
def numberedM_L1 (c : Cluster) (i : Nat) (e1_ : Command) : Option Int := scanN (numberedM_B1 c i e1_) 0 ((c.commands.take i).length)
def numberedM_B2 (c : Cluster) (i : Nat) (e1_ : Command) (k2_ : Nat) : Option Int :=
 (match (e1_.effects)[k2_]? with | some e3_ => (bif (effectM c e1_.param e3_ != 0) then some (effectM c e1_.param e3_) else none) | none => none)
def numberedM_L2 (c : Cluster) (i : Nat) (e1_ : Command) : Option Int := scanN (numberedM_B2 c i e1_) 0 e1_.effects.length
def numberedM (c : Cluster) (i : Nat) : Int :=
 (match (c.commands)[i]? with | some e1_ => (bif !(validM e1_.name) then 10 else (numberedM_L1 c i e1_).getD (bif (bif (e1_.param.kind == 0) then !(!(zeroM e1_.param)) else !(defM e1_.param != 0)) then (numberedM_L2 c i e1_).getD 0 else (bif (e1_.param.kind == 0) then 4 else defM e1_.param))) | none => 0)
abbrev numberedM_c1 (e1_ : Command) : Nat × AObj := (1, .box 89 (avs (Command.cells e1_)))
abbrev numberedM_c2 (c : Cluster) : Nat × AObj := (0, .box 46 (avs (Cluster.cells c)))
abbrev numberedM_c3 (c : Cluster) (i : Nat) : Nat × AV := (24, .rv (.sl 9 ((c.commands.take i).map Command.cells)))
abbrev numberedM_c4 (e1_ : Command) : Nat × AV := (51, .rv (.sl 3 (e1_.effects.map Effect.cells)))
abbrev numberedM_c5 (c : Cluster) (i : Nat) : Nat × AV := (25, vi (((c.commands.take i).length : Nat) : Int))
abbrev numberedM_c6 (e1_ : Command) : Nat × AV := (52, vi (e1_.effects.length : Int))
theorem numberedM_ok (c : Cluster) (i : Nat) (hw : FitA c) (hi : i < c.commands.length) :
 ACalls Try.prog G_ 94 [.agg (avs (Cluster.cells c)), vi (i : Int)] [] 0 (fun r τ => r = vi (numberedM c i) ∧ τ = []) := by
 refine ACalls.body Try.func94 rfl 66 [(0, .agg (avs (Cluster.cells c))), (1, vi (i : Int))] ?_
 refine AWp.hz [.run 2] 66 [(1, vi (i : Int)), (2, .ptr 0 0)] [(numberedM_c2 c)] 1 ?_
 obtain ⟨e1_, he1_⟩ : ∃ e_, (c.commands)[i]? = some e_ := ⟨_, List.getElem?_eq_getElem (by omega)⟩
 refine AWp.hz [.run 3, .idx Command.cells c.commands 9 i e1_ he1_, .run 3] 66 [(1, vi (i : Int)), (2, .ptr 0 0), (5, .ptr 1 0)] [(numberedM_c1 e1_), (numberedM_c2 c)] 2 ?_
 refine AWp.seq ?_
 refine AWp.hz [.run 2, .call 26 [vs e1_.name] (vb (validM e1_.name)) [] 0 (validM_ok e1_.name), .run 1] 66 [(1, vi (i : Int)), (2, .ptr 0 0), (5, .ptr 1 0), (20, vb (!(validM e1_.name)))] [(numberedM_c1 e1_), (numberedM_c2 c)] 2 ?_
 refine AWp.cnd (!(validM e1_.name)) (fun h1 => ?_) (fun h1 => ?_)
 ·
  refine AWp.hz [.run 1] 66 [(4, vi 10)] [] 2 ?_
  refine AWp.ret ?_
  exact leafR (r := vi 10) (by unfold numberedM; (try simp only [he1_]); (try rw [h1]); try kernel_rfl)
 ·
  refine AWp.skip ?_
  refine AWp.seq ?_
  refine AWp.hzl [.run 3, .take Command.cells c.commands 9 i (by omega), .len Command.cells (c.commands.take i) 9, .run 1] 66 [(2, .ptr 0 0), (5, .ptr 1 0), (numberedM_c3 c i), (numberedM_c5 c i), (26, vi 0)] [(numberedM_c1 e1_), (numberedM_c2 c)] 2 (fun hl => ?_)
  obtain ⟨hn2, -⟩ := hl
  refine AWp.block ?_
  refine AWp.loop (ι := Nat) (fun k1_ => Z 66 [(2, .ptr 0 0), (5, .ptr 1 0), (numberedM_c3 c i), (numberedM_c5 c i), (26, vi (k1_ : Int))] [(numberedM_c1 e1_), (numberedM_c2 c)] 2) (fun k1_ => k1_ ≤ ((c.commands.take i).length) ∧ numberedM_L1 c i e1_ = scanN (numberedM_B1 c i e1_) k1_ (((c.commands.take i).length) - k1_)) (fun k1_ => ((c.commands.take i).length) - k1_) 0 leZ ⟨Nat.zero_le _, rfl⟩ ?_
  intro k1_ ⟨hk1_, hs1_⟩
  refine AWp.hz [.run 1] 66 [(2, .ptr 0 0), (5, .ptr 1 0), (numberedM_c3 c i), (numberedM_c5 c i), (26, vi (k1_ : Int)), (27, vb (decide ((k1_ : Int) < (((c.commands.take i).length : Nat) : Int))))] [(numberedM_c1 e1_), (numberedM_c2 c)] 2 ?_
  refine AWp.seq ?_
  refine AWp.cnd (decide ((k1_ : Int) < (((c.commands.take i).length : Nat) : Int))) (fun h3 => ?_) (fun h3 => ?_)
  ·
   have h3' := of_decide_eq_true h3
   refine AWp.skip ?_
   refine AWp.seq ?_
   refine AWp.block ?_
   obtain ⟨e2_, he2_⟩ : ∃ e_, ((c.commands.take i))[k1_]? = some e_ := ⟨_, List.getElem?_eq_getElem (by first | omega | (simp only [List.length_take]; omega))⟩
   refine AWp.hz [.idx Command.cells (c.commands.take i) 9 k1_ e2_ he2_, .run 3] 66 [(2, .ptr 0 0), (5, .ptr 1 0), (7, .ptr 2 0), (numberedM_c3 c i), (numberedM_c5 c i), (26, vi (k1_ : Int))] [(2, .box 89 (avs (Command.cells e2_))), (numberedM_c1 e1_), (numberedM_c2 c)] 3 ?_
   refine AWp.hz [.run 5] 66 [(2, .ptr 0 0), (5, .ptr 1 0), (numberedM_c3 c i), (numberedM_c5 c i), (26, vi (k1_ : Int)), (34, vb (beqS e2_.name e1_.name))] [(numberedM_c1 e1_), (numberedM_c2 c)] 3 ?_
   refine AWp.cnd (beqS e2_.name e1_.name) (fun h4 => ?_) (fun h4 => ?_)
   ·
    refine AWp.hz [.run 1] 66 [(4, vi 9)] [] 3 ?_
    refine AWp.ret ?_
    have hL1_ : numberedM_L1 c i e1_ = some 9 := scanN_some hs1_ (by omega) (by unfold numberedM_B1; (try simp only [he1_]); (try simp only [he2_]); (try rw [h3]); (try rw [h4]); try kernel_rfl)
    exact leafR (r := vi 9) (by unfold numberedM; (try simp only [he1_]); (try rw [h1]); (try rw [hL1_]); try kernel_rfl)
   ·
    refine AWp.skip ?_
    refine AWp.he [.cast (vi (IntKind.i64.wrap ((k1_ : Int) + 1))) (vi ((k1_ + 1 : Nat) : Int)) (congrArg vi (wrap_nat (by omega))), .run 1] 66 [(2, .ptr 0 0), (5, .ptr 1 0), (numberedM_c3 c i), (numberedM_c5 c i), (26, vi ((k1_ + 1 : Nat) : Int))] [(numberedM_c1 e1_), (numberedM_c2 c)] 3 ?_
    exact ⟨k1_ + 1, ⟨by omega, scanN_none hs1_ (by omega) (by unfold numberedM_B1; (try simp only [he1_]); (try simp only [he2_]); (try rw [h3]); (try rw [h4]); try kernel_rfl)⟩, by omega, leG⟩
  ·
   have h3' := of_decide_eq_false h3
   refine AWp.exit ?_
   have hL1_ : numberedM_L1 c i e1_ = none := scanN_end hs1_ (by omega)
   refine AWp.joinP (Z 66 [(2, .ptr 0 0), (5, .ptr 1 0)] [(1, .box 89 (avs (Command.cells e1_))), (0, .box 46 (avs (Cluster.cells c)))] 2) ((bif (e1_.param.kind == 0) then !(!(zeroM e1_.param)) else !(defM e1_.param != 0)) = true) ?_ (fun hj5 => ?_)
   ·
    refine AWp.hz [.run 4] 66 [(2, .ptr 0 0), (5, .ptr 1 0), (39, vb (e1_.param.kind == 0))] [(numberedM_c1 e1_), (numberedM_c2 c)] 2 ?_
    refine AWp.cnd ((e1_.param.kind == 0)) (fun h6 => ?_) (fun h6 => ?_)
    ·
     refine AWp.hz [.run 2, .call 97 [.agg [vs e1_.param.name, vi e1_.param.kind, vi e1_.param.min, vi e1_.param.max, .rv (.sl 1 (e1_.param.enum.map strC)), vb e1_.param.writable, vb e1_.param.safety]] (vb (zeroM e1_.param)) [] 0 (zeroM_ok e1_.param), .run 1] 66 [(2, .ptr 0 0), (5, .ptr 1 0), (43, vb (!(zeroM e1_.param)))] [(numberedM_c1 e1_), (numberedM_c2 c)] 2 ?_
     refine AWp.cnd (!(zeroM e1_.param)) (fun h7 => ?_) (fun h7 => ?_)
     ·
      refine AWp.hz [.run 1] 66 [(4, vi 4)] [] 2 ?_
      refine AWp.ret ?_
      exact leafR (r := vi 4) (by unfold numberedM; (try simp only [he1_]); (try rw [h1]); (try rw [hL1_]); (try rw [h6]); (try rw [h7]); try kernel_rfl)
     ·
      refine AWp.skip ?_
      exact ⟨leZ, by rw [h6, h7]; try kernel_rfl⟩
    ·
     refine AWp.hz [.run 2, .call 93 [.agg [vs e1_.param.name, vi e1_.param.kind, vi e1_.param.min, vi e1_.param.max, .rv (.sl 1 (e1_.param.enum.map strC)), vb e1_.param.writable, vb e1_.param.safety]] (vi (defM e1_.param)) [] 0 (defM_ok e1_.param), .run 1] 66 [(2, .ptr 0 0), (5, .ptr 1 0), (8, vi (defM e1_.param))] [(numberedM_c1 e1_), (numberedM_c2 c)] 2 ?_
     refine AWp.hz [.run 2] 66 [(2, .ptr 0 0), (5, .ptr 1 0), (8, vi (defM e1_.param)), (48, vb (defM e1_.param != 0))] [(numberedM_c1 e1_), (numberedM_c2 c)] 2 ?_
     refine AWp.cnd ((defM e1_.param != 0)) (fun h8 => ?_) (fun h8 => ?_)
     ·
      refine AWp.hz [.run 2] 66 [(4, vi (defM e1_.param))] [] 2 ?_
      refine AWp.ret ?_
      exact leafR (r := vi (defM e1_.param)) (by unfold numberedM; (try simp only [he1_]); (try rw [h1]); (try rw [hL1_]); (try rw [h6]); (try rw [h8]); try kernel_rfl)
     ·
      refine AWp.skip ?_
      exact ⟨leZ, by rw [h6, h8]; try kernel_rfl⟩
   ·
    refine AWp.seq ?_
    refine AWp.hzl [.run 2, .len Effect.cells e1_.effects 3, .run 1] 66 [(2, .ptr 0 0), (5, .ptr 1 0), (numberedM_c4 e1_), (numberedM_c6 e1_), (53, vi 0)] [(numberedM_c1 e1_), (numberedM_c2 c)] 2 (fun hl => ?_)
    obtain ⟨hn9, -⟩ := hl
    refine AWp.block ?_
    refine AWp.loop (ι := Nat) (fun k2_ => Z 66 [(2, .ptr 0 0), (5, .ptr 1 0), (numberedM_c4 e1_), (numberedM_c6 e1_), (53, vi (k2_ : Int))] [(numberedM_c1 e1_), (numberedM_c2 c)] 2) (fun k2_ => k2_ ≤ e1_.effects.length ∧ numberedM_L2 c i e1_ = scanN (numberedM_B2 c i e1_) k2_ (e1_.effects.length - k2_)) (fun k2_ => e1_.effects.length - k2_) 0 leZ ⟨Nat.zero_le _, rfl⟩ ?_
    intro k2_ ⟨hk2_, hs2_⟩
    refine AWp.hz [.run 1] 66 [(2, .ptr 0 0), (5, .ptr 1 0), (numberedM_c4 e1_), (numberedM_c6 e1_), (53, vi (k2_ : Int)), (54, vb (decide ((k2_ : Int) < (e1_.effects.length : Int))))] [(numberedM_c1 e1_), (numberedM_c2 c)] 2 ?_
    refine AWp.seq ?_
    refine AWp.cnd (decide ((k2_ : Int) < (e1_.effects.length : Int))) (fun h10 => ?_) (fun h10 => ?_)
    ·
     have h10' := of_decide_eq_true h10
     refine AWp.skip ?_
     refine AWp.seq ?_
     refine AWp.block ?_
     obtain ⟨e3_, he3_⟩ : ∃ e_, (e1_.effects)[k2_]? = some e_ := ⟨_, List.getElem?_eq_getElem (by omega)⟩
     refine AWp.hz [.idx Effect.cells e1_.effects 3 k2_ e3_ he3_, .run 3] 66 [(2, .ptr 0 0), (5, .ptr 1 0), (10, .ptr 2 0), (numberedM_c4 e1_), (numberedM_c6 e1_), (53, vi (k2_ : Int))] [(2, .box 86 (avs (Effect.cells e3_))), (numberedM_c1 e1_), (numberedM_c2 c)] 3 ?_
     refine AWp.hz [.run 4, .call 98 [.agg (avs (Cluster.cells c)), .agg [vs e1_.param.name, vi e1_.param.kind, vi e1_.param.min, vi e1_.param.max, .rv (.sl 1 (e1_.param.enum.map strC)), vb e1_.param.writable, vb e1_.param.safety], .agg (avs (Effect.cells e3_))] (vi (effectM c e1_.param e3_)) [] 0 (effectM_ok c e1_.param e3_ (by first | assumption | exact check_fit (by assumption) | omega)), .run 1] 66 [(2, .ptr 0 0), (5, .ptr 1 0), (11, vi (effectM c e1_.param e3_)), (numberedM_c4 e1_), (numberedM_c6 e1_), (53, vi (k2_ : Int))] [(numberedM_c1 e1_), (numberedM_c2 c)] 3 ?_
     refine AWp.hz [.run 2] 66 [(2, .ptr 0 0), (5, .ptr 1 0), (11, vi (effectM c e1_.param e3_)), (numberedM_c4 e1_), (numberedM_c6 e1_), (53, vi (k2_ : Int)), (63, vb (effectM c e1_.param e3_ != 0))] [(numberedM_c1 e1_), (numberedM_c2 c)] 3 ?_
     refine AWp.cnd ((effectM c e1_.param e3_ != 0)) (fun h11 => ?_) (fun h11 => ?_)
     ·
      refine AWp.hz [.run 2] 66 [(4, vi (effectM c e1_.param e3_))] [] 3 ?_
      refine AWp.ret ?_
      have hL2_ : numberedM_L2 c i e1_ = some (effectM c e1_.param e3_) := scanN_some hs2_ (by omega) (by unfold numberedM_B2; (try simp only [he1_]); (try simp only [he3_]); (try rw [h10]); (try rw [h11]); try kernel_rfl)
      exact leafR (r := vi (effectM c e1_.param e3_)) (by unfold numberedM; (try simp only [he1_]); (try rw [h1]); (try rw [hL1_]); (try rw [hj5]); (try rw [hL2_]); try kernel_rfl)
     ·
      refine AWp.skip ?_
      refine AWp.he [.cast (vi (IntKind.i64.wrap ((k2_ : Int) + 1))) (vi ((k2_ + 1 : Nat) : Int)) (congrArg vi (wrap_nat (by omega))), .run 1] 66 [(2, .ptr 0 0), (5, .ptr 1 0), (numberedM_c4 e1_), (numberedM_c6 e1_), (53, vi ((k2_ + 1 : Nat) : Int))] [(numberedM_c1 e1_), (numberedM_c2 c)] 3 ?_
      exact ⟨k2_ + 1, ⟨by omega, scanN_none hs2_ (by omega) (by unfold numberedM_B2; (try simp only [he1_]); (try simp only [he3_]); (try rw [h10]); (try rw [h11]); try kernel_rfl)⟩, by omega, leG⟩
    ·
     have h10' := of_decide_eq_false h10
     refine AWp.exit ?_
     have hL2_ : numberedM_L2 c i e1_ = none := scanN_end hs2_ (by omega)
     refine AWp.hz [.run 1] 66 [(4, vi 0)] [] 2 ?_
     refine AWp.ret ?_
     exact leafR (r := vi 0) (by unfold numberedM; (try simp only [he1_]); (try rw [h1]); (try rw [hL1_]); (try rw [hj5]); (try rw [hL2_]); try kernel_rfl)
def checkM_B2 (c : Cluster) (k1_ : Nat) (e1_ : Attr) (k2_ : Nat) : Option Int :=
 (match ((c.attrs.take k1_))[k2_]? with | some e2_ => (bif beqS e2_.name e1_.name then some 9 else none) | none => none)
def checkM_L2 (c : Cluster) (k1_ : Nat) (e1_ : Attr) : Option Int := scanN (checkM_B2 c k1_ e1_) 0 ((c.attrs.take k1_).length)
def checkM_B1 (c : Cluster) (k1_ : Nat) : Option Int :=
 (match (c.attrs)[k1_]? with | some e1_ => (bif (defM e1_ != 0) then some (defM e1_) else checkM_L2 c k1_ e1_) | none => none)
def checkM_L1 (c : Cluster) : Option Int := scanN (checkM_B1 c) 0 c.attrs.length
def checkM_B3 (c : Cluster) (k3_ : Nat) : Option Int :=
 (bif (numberedM c k3_ != 0) then some (numberedM c k3_) else none)
def checkM_L3 (c : Cluster) : Option Int := scanN (checkM_B3 c) 0 c.commands.length
def checkM_B4 (c : Cluster) (k4_ : Nat) : Option Int :=
 (match (c.events)[k4_]? with | some e3_ => (bif !(validM e3_) then some 10 else (bif sContM (c.events.take k4_) e3_ then some 9 else none)) | none => none)
def checkM_L4 (c : Cluster) : Option Int := scanN (checkM_B4 c) 0 c.events.length
def checkM (c : Cluster) : Int :=
 (bif !(validM c.name) then 10 else (bif wideM c then 3 else (checkM_L1 c).getD ((checkM_L3 c).getD ((checkM_L4 c).getD 0))))
abbrev checkM_c1 (c : Cluster) : Nat × AObj := (0, .box 46 (avs (Cluster.cells c)))
abbrev checkM_c2 (c : Cluster) : Nat × AV := (19, .rv (.sl 7 (c.attrs.map Attr.cells)))
abbrev checkM_c3 (c : Cluster) : Nat × AV := (20, vi (c.attrs.length : Int))
abbrev checkM_c4 (c : Cluster) (k1_ : Nat) : Nat × AV := (34, .rv (.sl 7 ((c.attrs.take k1_).map Attr.cells)))
abbrev checkM_c5 (e1_ : Attr) : Nat × AObj := (1, .box 48 (avs (Attr.cells e1_)))
abbrev checkM_c6 (k1_ : Nat) : Nat × AV := (21, vi (k1_ : Int))
abbrev checkM_c7 (c : Cluster) (k1_ : Nat) : Nat × AV := (35, vi (((c.attrs.take k1_).length : Nat) : Int))
abbrev checkM_c8 (c : Cluster) : Nat × AV := (49, vi (c.commands.length : Int))
abbrev checkM_c9 (c : Cluster) : Nat × AV := (62, vi (c.events.length : Int))
abbrev checkM_c10 (c : Cluster) : Nat × AV := (61, .rv (.sl 1 (c.events.map strC)))
theorem def_enum {a : Attr} (h : defM a = 0) : a.enum.length ≤ 1000000 := by
 unfold defM membersM at h
 simp only [cond_eq_ite] at h
 repeat' split at h
 all_goals (try simp only [Bool.or_eq_true, decide_eq_true_eq, not_or, Int.not_lt] at *)
 all_goals omega
theorem check_fit {c : Cluster} (h : checkM_L1 c = none) : FitA c := by
 intro a ha
 obtain ⟨k, hk, rfl⟩ := List.mem_iff_getElem.1 ha
 have := scanN_all.1 h k (Nat.zero_le _) (by omega)
 unfold checkM_B1 at this
 rw [List.getElem?_eq_getElem hk] at this
 simp only [cond_eq_ite] at this
 split at this
 ·cases this
 ·rename_i h2
  exact def_enum (by simpa using h2)
theorem checkM_ok (c : Cluster) :
 ACalls Try.prog G_ 91 [.agg (avs (Cluster.cells c))] [] 0 (fun r τ => r = vi (checkM c) ∧ τ = []) := by
 refine ACalls.body Try.func91 rfl 78 [(0, .agg (avs (Cluster.cells c)))] ?_
 refine AWp.hz [.run 2] 78 [(1, .ptr 0 0)] [(checkM_c1 c)] 1 ?_
 refine AWp.seq ?_
 refine AWp.hz [.run 2, .call 26 [vs c.name] (vb (validM c.name)) [] 0 (validM_ok c.name), .run 1] 78 [(1, .ptr 0 0), (15, vb (!(validM c.name)))] [(checkM_c1 c)] 1 ?_
 refine AWp.cnd (!(validM c.name)) (fun h1 => ?_) (fun h1 => ?_)
 ·
  refine AWp.hz [.run 1] 78 [(2, vi 10)] [] 1 ?_
  refine AWp.ret ?_
  exact leafR (r := vi 10) (by unfold checkM; (try rw [h1]); try kernel_rfl)
 ·
  refine AWp.skip ?_
  refine AWp.seq ?_
  refine AWp.hz [.run 1, .call 92 [.agg (avs (Cluster.cells c))] (vb (wideM c)) [] 0 (wideM_ok c)] 78 [(1, .ptr 0 0), (17, vb (wideM c))] [(checkM_c1 c)] 1 ?_
  refine AWp.cnd (wideM c) (fun h2 => ?_) (fun h2 => ?_)
  ·
   refine AWp.hz [.run 1] 78 [(2, vi 3)] [] 1 ?_
   refine AWp.ret ?_
   exact leafR (r := vi 3) (by unfold checkM; (try rw [h1]); (try rw [h2]); try kernel_rfl)
  ·
   refine AWp.skip ?_
   refine AWp.seq ?_
   refine AWp.hzl [.run 2, .len Attr.cells c.attrs 7, .run 1] 78 [(1, .ptr 0 0), (checkM_c2 c), (checkM_c3 c), (21, vi 0)] [(checkM_c1 c)] 1 (fun hl => ?_)
   obtain ⟨hn3, -⟩ := hl
   refine AWp.block ?_
   refine AWp.loop (ι := Nat) (fun k1_ => Z 78 [(1, .ptr 0 0), (checkM_c2 c), (checkM_c3 c), (checkM_c6 k1_)] [(checkM_c1 c)] 1) (fun k1_ => k1_ ≤ c.attrs.length ∧ checkM_L1 c = scanN (checkM_B1 c) k1_ (c.attrs.length - k1_)) (fun k1_ => c.attrs.length - k1_) 0 leZ ⟨Nat.zero_le _, rfl⟩ ?_
   intro k1_ ⟨hk1_, hs1_⟩
   refine AWp.hz [.run 1] 78 [(1, .ptr 0 0), (checkM_c2 c), (checkM_c3 c), (checkM_c6 k1_), (22, vb (decide ((k1_ : Int) < (c.attrs.length : Int))))] [(checkM_c1 c)] 1 ?_
   refine AWp.seq ?_
   refine AWp.cnd (decide ((k1_ : Int) < (c.attrs.length : Int))) (fun h4 => ?_) (fun h4 => ?_)
   ·
    have h4' := of_decide_eq_true h4
    refine AWp.skip ?_
    refine AWp.seq ?_
    refine AWp.block ?_
    obtain ⟨e1_, he1_⟩ : ∃ e_, (c.attrs)[k1_]? = some e_ := ⟨_, List.getElem?_eq_getElem (by omega)⟩
    refine AWp.hz [.run 1, .idx Attr.cells c.attrs 7 k1_ e1_ he1_, .run 4] 78 [(1, .ptr 0 0), (3, vi (k1_ : Int)), (4, .ptr 1 0), (checkM_c2 c), (checkM_c3 c), (checkM_c6 k1_)] [(checkM_c5 e1_), (checkM_c1 c)] 2 ?_
    refine AWp.seq ?_
    refine AWp.hz [.run 1, .call 93 [.agg (avs (Attr.cells e1_))] (vi (defM e1_)) [] 0 (defM_ok e1_), .run 1] 78 [(1, .ptr 0 0), (3, vi (k1_ : Int)), (4, .ptr 1 0), (5, vi (defM e1_)), (checkM_c2 c), (checkM_c3 c), (checkM_c6 k1_)] [(checkM_c5 e1_), (checkM_c1 c)] 2 ?_
    refine AWp.hz [.run 2] 78 [(1, .ptr 0 0), (3, vi (k1_ : Int)), (4, .ptr 1 0), (5, vi (defM e1_)), (checkM_c2 c), (checkM_c3 c), (checkM_c6 k1_), (29, vb (defM e1_ != 0))] [(checkM_c5 e1_), (checkM_c1 c)] 2 ?_
    refine AWp.cnd ((defM e1_ != 0)) (fun h5 => ?_) (fun h5 => ?_)
    ·
     refine AWp.hz [.run 2] 78 [(2, vi (defM e1_))] [] 2 ?_
     refine AWp.ret ?_
     have hL1_ : checkM_L1 c = some (defM e1_) := scanN_some hs1_ (by omega) (by unfold checkM_B1; (try simp only [he1_]); (try rw [h4]); (try rw [h5]); try kernel_rfl)
     exact leafR (r := vi (defM e1_)) (by unfold checkM; (try rw [h1]); (try rw [h2]); (try rw [hL1_]); try kernel_rfl)
    ·
     refine AWp.skip ?_
     refine AWp.hzl [.run 3, .take Attr.cells c.attrs 7 k1_ (by omega), .len Attr.cells (c.attrs.take k1_) 7, .run 1] 78 [(1, .ptr 0 0), (4, .ptr 1 0), (checkM_c2 c), (checkM_c3 c), (checkM_c6 k1_), (checkM_c4 c k1_), (checkM_c7 c k1_), (36, vi 0)] [(checkM_c5 e1_), (checkM_c1 c)] 2 (fun hl => ?_)
     obtain ⟨hn6, -⟩ := hl
     refine AWp.block ?_
     refine AWp.loop (ι := Nat) (fun k2_ => Z 78 [(1, .ptr 0 0), (4, .ptr 1 0), (checkM_c2 c), (checkM_c3 c), (checkM_c6 k1_), (checkM_c4 c k1_), (checkM_c7 c k1_), (36, vi (k2_ : Int))] [(checkM_c5 e1_), (checkM_c1 c)] 2) (fun k2_ => k2_ ≤ ((c.attrs.take k1_).length) ∧ checkM_L2 c k1_ e1_ = scanN (checkM_B2 c k1_ e1_) k2_ (((c.attrs.take k1_).length) - k2_)) (fun k2_ => ((c.attrs.take k1_).length) - k2_) 0 leZ ⟨Nat.zero_le _, rfl⟩ ?_
     intro k2_ ⟨hk2_, hs2_⟩
     refine AWp.hz [.run 1] 78 [(1, .ptr 0 0), (4, .ptr 1 0), (checkM_c2 c), (checkM_c3 c), (checkM_c6 k1_), (checkM_c4 c k1_), (checkM_c7 c k1_), (36, vi (k2_ : Int)), (37, vb (decide ((k2_ : Int) < (((c.attrs.take k1_).length : Nat) : Int))))] [(checkM_c5 e1_), (checkM_c1 c)] 2 ?_
     refine AWp.seq ?_
     refine AWp.cnd (decide ((k2_ : Int) < (((c.attrs.take k1_).length : Nat) : Int))) (fun h7 => ?_) (fun h7 => ?_)
     ·
      have h7' := of_decide_eq_true h7
      refine AWp.skip ?_
      refine AWp.seq ?_
      refine AWp.block ?_
      obtain ⟨e2_, he2_⟩ : ∃ e_, ((c.attrs.take k1_))[k2_]? = some e_ := ⟨_, List.getElem?_eq_getElem (by first | omega | (simp only [List.length_take]; omega))⟩
      refine AWp.hz [.idx Attr.cells (c.attrs.take k1_) 7 k2_ e2_ he2_, .run 3] 78 [(1, .ptr 0 0), (4, .ptr 1 0), (7, .ptr 2 0), (checkM_c2 c), (checkM_c3 c), (checkM_c6 k1_), (checkM_c4 c k1_), (checkM_c7 c k1_), (36, vi (k2_ : Int))] [(2, .box 48 (avs (Attr.cells e2_))), (checkM_c5 e1_), (checkM_c1 c)] 3 ?_
      refine AWp.hz [.run 5] 78 [(1, .ptr 0 0), (4, .ptr 1 0), (checkM_c2 c), (checkM_c3 c), (checkM_c6 k1_), (checkM_c4 c k1_), (checkM_c7 c k1_), (36, vi (k2_ : Int)), (44, vb (beqS e2_.name e1_.name))] [(checkM_c5 e1_), (checkM_c1 c)] 3 ?_
      refine AWp.cnd (beqS e2_.name e1_.name) (fun h8 => ?_) (fun h8 => ?_)
      ·
       refine AWp.hz [.run 1] 78 [(2, vi 9)] [] 3 ?_
       refine AWp.ret ?_
       have hL2_ : checkM_L2 c k1_ e1_ = some 9 := scanN_some hs2_ (by omega) (by unfold checkM_B2; (try simp only [he1_]); (try simp only [he2_]); (try rw [h7]); (try rw [h8]); try kernel_rfl)
       have hL1_ : checkM_L1 c = some 9 := scanN_some hs1_ (by omega) (by unfold checkM_B1; (try simp only [he1_]); (try simp only [he2_]); (try rw [h4]); (try rw [h5]); (try rw [h7]); (try rw [h8]); (try rw [hL2_]); try kernel_rfl)
       exact leafR (r := vi 9) (by unfold checkM; (try rw [h1]); (try rw [h2]); (try rw [hL1_]); try kernel_rfl)
      ·
       refine AWp.skip ?_
       refine AWp.he [.cast (vi (IntKind.i64.wrap ((k2_ : Int) + 1))) (vi ((k2_ + 1 : Nat) : Int)) (congrArg vi (wrap_nat (by omega))), .run 1] 78 [(1, .ptr 0 0), (4, .ptr 1 0), (checkM_c2 c), (checkM_c3 c), (checkM_c6 k1_), (checkM_c4 c k1_), (checkM_c7 c k1_), (36, vi ((k2_ + 1 : Nat) : Int))] [(checkM_c5 e1_), (checkM_c1 c)] 3 ?_
       exact ⟨k2_ + 1, ⟨by omega, scanN_none hs2_ (by omega) (by unfold checkM_B2; (try simp only [he1_]); (try simp only [he2_]); (try rw [h7]); (try rw [h8]); try kernel_rfl)⟩, by omega, leG⟩
     ·
      have h7' := of_decide_eq_false h7
      refine AWp.exit ?_
      have hL2_ : checkM_L2 c k1_ e1_ = none := scanN_end hs2_ (by omega)
      refine AWp.he [.cast (vi (IntKind.i64.wrap ((k1_ : Int) + 1))) (vi ((k1_ + 1 : Nat) : Int)) (congrArg vi (wrap_nat (by omega))), .run 1] 78 [(1, .ptr 0 0), (checkM_c2 c), (checkM_c3 c), (21, vi ((k1_ + 1 : Nat) : Int))] [(checkM_c1 c)] 2 ?_
      exact ⟨k1_ + 1, ⟨by omega, scanN_none hs1_ (by omega) (by unfold checkM_B1; (try simp only [he1_]); (try rw [h4]); (try rw [h5]); (try rw [hL2_]); try kernel_rfl)⟩, by omega, leG⟩
   ·
    have h4' := of_decide_eq_false h4
    refine AWp.exit ?_
    have hL1_ : checkM_L1 c = none := scanN_end hs1_ (by omega)
    refine AWp.seq ?_
    refine AWp.hzl [.run 2, .len Command.cells c.commands 9, .run 1] 78 [(1, .ptr 0 0), (checkM_c8 c), (50, vi 0)] [(checkM_c1 c)] 1 (fun hl => ?_)
    obtain ⟨hn9, -⟩ := hl
    refine AWp.block ?_
    refine AWp.loop (ι := Nat) (fun k3_ => Z 78 [(1, .ptr 0 0), (checkM_c8 c), (50, vi (k3_ : Int))] [(checkM_c1 c)] 1) (fun k3_ => k3_ ≤ c.commands.length ∧ checkM_L3 c = scanN (checkM_B3 c) k3_ (c.commands.length - k3_)) (fun k3_ => c.commands.length - k3_) 0 leZ ⟨Nat.zero_le _, rfl⟩ ?_
    intro k3_ ⟨hk3_, hs3_⟩
    refine AWp.hz [.run 1] 78 [(1, .ptr 0 0), (checkM_c8 c), (50, vi (k3_ : Int)), (51, vb (decide ((k3_ : Int) < (c.commands.length : Int))))] [(checkM_c1 c)] 1 ?_
    refine AWp.seq ?_
    refine AWp.cnd (decide ((k3_ : Int) < (c.commands.length : Int))) (fun h10 => ?_) (fun h10 => ?_)
    ·
     have h10' := of_decide_eq_true h10
     refine AWp.skip ?_
     refine AWp.seq ?_
     refine AWp.block ?_
     refine AWp.hz [.run 2] 78 [(1, .ptr 0 0), (8, vi (k3_ : Int)), (checkM_c8 c), (50, vi (k3_ : Int))] [(checkM_c1 c)] 1 ?_
     refine AWp.hz [.run 2, .call 94 [.agg (avs (Cluster.cells c)), vi (k3_ : Int)] (vi (numberedM c k3_)) [] 0 (numberedM_ok c k3_ (by first | assumption | exact check_fit (by assumption) | omega) (by first | assumption | exact check_fit (by assumption) | omega)), .run 1] 78 [(1, .ptr 0 0), (9, vi (numberedM c k3_)), (checkM_c8 c), (50, vi (k3_ : Int))] [(checkM_c1 c)] 1 ?_
     refine AWp.hz [.run 2] 78 [(1, .ptr 0 0), (9, vi (numberedM c k3_)), (checkM_c8 c), (50, vi (k3_ : Int)), (57, vb (numberedM c k3_ != 0))] [(checkM_c1 c)] 1 ?_
     refine AWp.cnd ((numberedM c k3_ != 0)) (fun h11 => ?_) (fun h11 => ?_)
     ·
      refine AWp.hz [.run 2] 78 [(2, vi (numberedM c k3_))] [] 1 ?_
      refine AWp.ret ?_
      have hL3_ : checkM_L3 c = some (numberedM c k3_) := scanN_some hs3_ (by omega) (by unfold checkM_B3; (try rw [h10]); (try rw [h11]); try kernel_rfl)
      exact leafR (r := vi (numberedM c k3_)) (by unfold checkM; (try rw [h1]); (try rw [h2]); (try rw [hL1_]); (try rw [hL3_]); try kernel_rfl)
     ·
      refine AWp.skip ?_
      refine AWp.he [.cast (vi (IntKind.i64.wrap ((k3_ : Int) + 1))) (vi ((k3_ + 1 : Nat) : Int)) (congrArg vi (wrap_nat (by omega))), .run 1] 78 [(1, .ptr 0 0), (checkM_c8 c), (50, vi ((k3_ + 1 : Nat) : Int))] [(checkM_c1 c)] 1 ?_
      exact ⟨k3_ + 1, ⟨by omega, scanN_none hs3_ (by omega) (by unfold checkM_B3; (try rw [h10]); (try rw [h11]); try kernel_rfl)⟩, by omega, leG⟩
    ·
     have h10' := of_decide_eq_false h10
     refine AWp.exit ?_
     have hL3_ : checkM_L3 c = none := scanN_end hs3_ (by omega)
     refine AWp.seq ?_
     refine AWp.hzl [.run 2, .len strC c.events 1, .run 1] 78 [(1, .ptr 0 0), (checkM_c10 c), (checkM_c9 c), (63, vi 0)] [(checkM_c1 c)] 1 (fun hl => ?_)
     obtain ⟨hn12, -⟩ := hl
     refine AWp.block ?_
     refine AWp.loop (ι := Nat) (fun k4_ => Z 78 [(1, .ptr 0 0), (checkM_c10 c), (checkM_c9 c), (63, vi (k4_ : Int))] [(checkM_c1 c)] 1) (fun k4_ => k4_ ≤ c.events.length ∧ checkM_L4 c = scanN (checkM_B4 c) k4_ (c.events.length - k4_)) (fun k4_ => c.events.length - k4_) 0 leZ ⟨Nat.zero_le _, rfl⟩ ?_
     intro k4_ ⟨hk4_, hs4_⟩
     refine AWp.hz [.run 1] 78 [(1, .ptr 0 0), (checkM_c10 c), (checkM_c9 c), (63, vi (k4_ : Int)), (64, vb (decide ((k4_ : Int) < (c.events.length : Int))))] [(checkM_c1 c)] 1 ?_
     refine AWp.seq ?_
     refine AWp.cnd (decide ((k4_ : Int) < (c.events.length : Int))) (fun h13 => ?_) (fun h13 => ?_)
     ·
      have h13' := of_decide_eq_true h13
      refine AWp.skip ?_
      refine AWp.seq ?_
      refine AWp.block ?_
      obtain ⟨e3_, he3_⟩ : ∃ e_, (c.events)[k4_]? = some e_ := ⟨_, List.getElem?_eq_getElem (by omega)⟩
      refine AWp.hz [.run 1, .idx strC c.events 1 k4_ e3_ he3_, .run 3] 78 [(1, .ptr 0 0), (10, vi (k4_ : Int)), (11, vs e3_), (checkM_c10 c), (checkM_c9 c), (63, vi (k4_ : Int))] [(checkM_c1 c)] 1 ?_
      refine AWp.seq ?_
      refine AWp.hz [.run 1, .call 26 [vs e3_] (vb (validM e3_)) [] 0 (validM_ok e3_), .run 1] 78 [(1, .ptr 0 0), (10, vi (k4_ : Int)), (11, vs e3_), (checkM_c10 c), (checkM_c9 c), (63, vi (k4_ : Int)), (70, vb (!(validM e3_)))] [(checkM_c1 c)] 1 ?_
      refine AWp.cnd (!(validM e3_)) (fun h14 => ?_) (fun h14 => ?_)
      ·
       refine AWp.hz [.run 1] 78 [(2, vi 10)] [] 1 ?_
       refine AWp.ret ?_
       have hL4_ : checkM_L4 c = some 10 := scanN_some hs4_ (by omega) (by unfold checkM_B4; (try simp only [he3_]); (try rw [h13]); (try rw [h14]); try kernel_rfl)
       exact leafR (r := vi 10) (by unfold checkM; (try rw [h1]); (try rw [h2]); (try rw [hL1_]); (try rw [hL3_]); (try rw [hL4_]); try kernel_rfl)
      ·
       refine AWp.skip ?_
       refine AWp.hz [.run 3, .take strC c.events 1 k4_ (by omega), .run 1, .call 95 [.rv (.sl 1 ((c.events.take k4_).map strC)), vs e3_] (vb (sContM (c.events.take k4_) e3_)) [] 0 (sContM_ok (c.events.take k4_) e3_)] 78 [(1, .ptr 0 0), (checkM_c10 c), (checkM_c9 c), (63, vi (k4_ : Int)), (76, vb (sContM (c.events.take k4_) e3_))] [(checkM_c1 c)] 1 ?_
       refine AWp.cnd (sContM (c.events.take k4_) e3_) (fun h15 => ?_) (fun h15 => ?_)
       ·
        refine AWp.hz [.run 1] 78 [(2, vi 9)] [] 1 ?_
        refine AWp.ret ?_
        have hL4_ : checkM_L4 c = some 9 := scanN_some hs4_ (by omega) (by unfold checkM_B4; (try simp only [he3_]); (try rw [h13]); (try rw [h14]); (try rw [h15]); try kernel_rfl)
        exact leafR (r := vi 9) (by unfold checkM; (try rw [h1]); (try rw [h2]); (try rw [hL1_]); (try rw [hL3_]); (try rw [hL4_]); try kernel_rfl)
       ·
        refine AWp.skip ?_
        refine AWp.he [.cast (vi (IntKind.i64.wrap ((k4_ : Int) + 1))) (vi ((k4_ + 1 : Nat) : Int)) (congrArg vi (wrap_nat (by omega))), .run 1] 78 [(1, .ptr 0 0), (checkM_c10 c), (checkM_c9 c), (63, vi ((k4_ + 1 : Nat) : Int))] [(checkM_c1 c)] 1 ?_
        exact ⟨k4_ + 1, ⟨by omega, scanN_none hs4_ (by omega) (by unfold checkM_B4; (try simp only [he3_]); (try rw [h13]); (try rw [h14]); (try rw [h15]); try kernel_rfl)⟩, by omega, leG⟩
     ·
      have h13' := of_decide_eq_false h13
      refine AWp.exit ?_
      have hL4_ : checkM_L4 c = none := scanN_end hs4_ (by omega)
      refine AWp.hz [.run 1] 78 [(2, vi 0)] [] 1 ?_
      refine AWp.ret ?_
      exact leafR (r := vi 0) (by unfold checkM; (try rw [h1]); (try rw [h2]); (try rw [hL1_]); (try rw [hL3_]); (try rw [hL4_]); try kernel_rfl)
end Go.Proofs.Ytnnlaccdendkpaa
