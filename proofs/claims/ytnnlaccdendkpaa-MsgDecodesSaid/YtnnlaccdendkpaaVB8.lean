/- Devices: the contracts. -/
import Derived.Test.YtnnlaccdendkpaaVB1
namespace Go.Proofs.Ytnnlaccdendkpaa
open Go Go.Av Go.Hh Go.Proofs
set_option maxRecDepth 100000
set_option maxHeartbeats 4000000
def clustersM_B1 (h : Home) (k1_ : Nat) (x_ : (List (ByteArray × Cluster))) : (List (ByteArray × Cluster)) :=
 match x_ with
 | (a1_0) => (match (h.clusters)[k1_]? with | some e1_ => ((mput a1_0 e1_.name e1_)) | none => x_)
def clustersM_L1 (h : Home) (x_ : (List (ByteArray × Cluster))) : (List (ByteArray × Cluster)) := iterN (clustersM_B1 h) 0 h.clusters.length x_
def clustersM (h : Home) : List (ByteArray × Cluster) :=
 (clustersM_L1 h (([] : List (ByteArray × Cluster))))
abbrev clustersM_c1 (h : Home) : Nat × AV := (8, .rv (.sl 4 (h.clusters.map Cluster.cells)))
abbrev clustersM_c2 (h : Home) : Nat × AV := (9, vi (h.clusters.length : Int))
theorem clustersM_ok (h : Home) :
 ACalls Try.prog G_ 80 [.agg (avs (Home.cells h))] [] 0 (fun r τ => r = .rv (mapM true kS Cluster.cells (clustersM h)) ∧ τ = []) := by
 refine ACalls.body Try.func80 rfl 20 [(0, .agg (avs (Home.cells h)))] ?_
 refine AWp.hz [.run 2] 20 [(1, .ptr 0 0)] [(0, .box 40 (avs (Home.cells h)))] 1 ?_
 refine AWp.rg ?_
 refine AOps.mapNew true ?_
 refine AOps.he [.run 1] 20 [(1, .ptr 0 0), (3, .ref 1)] [(1, mapO true kS Cluster.cells ([] : List (ByteArray × Cluster))), (0, .box 40 (avs (Home.cells h)))] 2 ?_
 refine AWp.seq ?_
 refine AWp.hzl [.run 2, .len Cluster.cells h.clusters 4, .run 1] 20 [(3, .ref 1), (clustersM_c1 h), (clustersM_c2 h), (10, vi 0)] [(1, mapO true kS Cluster.cells ([] : List (ByteArray × Cluster)))] 2 (fun hl => ?_)
 obtain ⟨hn1, -⟩ := hl
 refine AWp.joinE1 (A := (List (ByteArray × Cluster))) (fun x_ => Z 20 [(3, .ref 1)] [(1, mapO true kS Cluster.cells x_)] 2) (fun x_ => x_ = (clustersM_L1 h (([] : List (ByteArray × Cluster))))) ?_ ?_
 ·
  refine AWp.block ?_
  refine AWp.loop (ι := Nat × ((List (ByteArray × Cluster)))) (fun x_ => Z 20 [(3, .ref 1), (clustersM_c1 h), (clustersM_c2 h), (10, vi (x_.1 : Int))] [(1, mapO true kS Cluster.cells x_.2)] 2) (fun x_ => x_.1 ≤ h.clusters.length ∧ (clustersM_L1 h (([] : List (ByteArray × Cluster)))) = iterN (clustersM_B1 h) x_.1 (h.clusters.length - x_.1) x_.2) (fun x_ => h.clusters.length - x_.1) (0, (([] : List (ByteArray × Cluster)))) leZ ⟨Nat.zero_le _, rfl⟩ ?_
  rintro ⟨k1_, a1_0⟩ ⟨hk1_, hs1_⟩
  try dsimp only at hk1_
  try dsimp only at hs1_
  refine AWp.cv 20 [(3, .ref 1), (clustersM_c1 h), (clustersM_c2 h), (10, vi (k1_ : Int))] [(1, mapO true kS Cluster.cells a1_0)] 2 ?_
  refine AWp.hz [.run 1] 20 [(3, .ref 1), (clustersM_c1 h), (clustersM_c2 h), (10, vi (k1_ : Int)), (11, vb (decide ((k1_ : Int) < (h.clusters.length : Int))))] [(1, mapO true kS Cluster.cells a1_0)] 2 ?_
  refine AWp.seq ?_
  refine AWp.cnd (decide ((k1_ : Int) < (h.clusters.length : Int))) (fun h2 => ?_) (fun h2 => ?_)
  ·
   have h2' := of_decide_eq_true h2
   refine AWp.skip ?_
   refine AWp.seq ?_
   refine AWp.block ?_
   obtain ⟨e1_, he1_⟩ := getEx (l := h.clusters) (j := k1_) (by omega)
   refine AWp.hz [.idx Cluster.cells h.clusters 4 k1_ e1_ he1_, .run 3] 20 [(3, .ref 1), (5, .ptr 2 0), (clustersM_c1 h), (clustersM_c2 h), (10, vi (k1_ : Int))] [(2, .box 46 (avs (Cluster.cells e1_))), (1, mapO true kS Cluster.cells a1_0)] 3 ?_
   refine AWp.region ?_
   refine AOps.hz [.run 4] 20 [(3, .ref 1), (clustersM_c1 h), (clustersM_c2 h), (10, vi (k1_ : Int)), (14, .ref 1), (16, vs e1_.name), (17, .agg (avs (Cluster.cells e1_)))] [(1, mapO true kS Cluster.cells a1_0)] 3 ?_
   refine AOps.mapPut keyS Cluster.cells true a1_0 e1_.name e1_ 1 (.tmp 14) (.tmp 16) (.tmp 17) ?_
   refine AOps.he [] 20 [(3, .ref 1), (clustersM_c1 h), (clustersM_c2 h), (10, vi (k1_ : Int))] [(1, mapO true kS Cluster.cells (mput a1_0 e1_.name e1_))] 3 ?_
   refine AWp.he [.cast (vi (IntKind.i64.wrap ((k1_ : Int) + 1))) (vi ((k1_ + 1 : Nat) : Int)) (congrArg vi (wrap_nat (by omega))), .run 1] 20 [(3, .ref 1), (clustersM_c1 h), (clustersM_c2 h), (10, vi ((k1_ + 1 : Nat) : Int))] [(1, mapO true kS Cluster.cells (mput a1_0 e1_.name e1_))] 3 ?_
   exact ⟨(k1_ + 1, ((mput a1_0 e1_.name e1_))), ⟨by show k1_ + 1 ≤ _; omega, iterN_next hs1_ (by omega) (by unfold clustersM_B1; (try dsimp only); (try simp only [he1_]); (try rw [h2]); try kernel_rfl)⟩, by show _ - (k1_ + 1) < _ - k1_; omega, leG⟩
  ·
   have h2' := of_decide_eq_false h2
   refine AWp.exit ?_
   have hq1_ : (a1_0) = (clustersM_L1 h (([] : List (ByteArray × Cluster)))) := iterN_end hs1_ (by omega)
   exact ⟨(a1_0), hq1_, leG⟩
 ·
  rintro _ rfl
  refine AWp.hz [.run 2] 20 [(2, .ref 1)] [(1, mapO true kS Cluster.cells (clustersM_L1 h (([] : List (ByteArray × Cluster)))))] 2 ?_
  refine AWp.le (Le.frzM _ 1) ?_
  refine AWp.cv 20 [(2, .rv (mapM true kS Cluster.cells (clustersM_L1 h (([] : List (ByteArray × Cluster))))))] [] 2 ?_
  refine AWp.ret ?_
  exact leafR (r := .rv (mapM true kS Cluster.cells (clustersM_L1 h (([] : List (ByteArray × Cluster)))))) (by show (.rv (mapM true kS Cluster.cells (clustersM_L1 h (([] : List (ByteArray × Cluster))))) : AV) = .rv (mapM true kS Cluster.cells (clustersM h)); unfold clustersM; try kernel_rfl)
def capsM_B1 (d : Dev) (m : List (ByteArray × Cluster)) (k1_ : Nat) (x_ : Int) : Step Int (Int) :=
 match x_ with
 | (a1_0) => (match (d.clusters)[k1_]? with | some e1_ => (bif (mget m e1_).isSome then (bif decide (nIndexM d.clusters e1_ < (k1_ : Int)) then .ret 9 else .nxt (IntKind.i64.wrap (a1_0 + (((((mget m e1_).getD default).attrs).length : Nat) : Int)))) else .ret 8) | none => .nxt x_)
def capsM_L1 (d : Dev) (m : List (ByteArray × Cluster)) (x_ : Int) : Int ⊕ (Int) := loopS (capsM_B1 d m) 0 d.clusters.length x_
def capsM (d : Dev) (m : List (ByteArray × Cluster)) : Int :=
 (bif (decide ((d.clusters.length : Int) < 1) || decide ((d.clusters.length : Int) > 4)) then 3 else (match (capsM_L1 d m (0)) with | .inl r_ => r_ | .inr (a1_0) => (bif decide (a1_0 > 24) then 3 else 0)))
abbrev capsM_c1 (m : List (ByteArray × Cluster)) : Nat × AV := (1, .rv (mapM true kS Cluster.cells m))
abbrev capsM_c2 (d : Dev) : Nat × AObj := (0, .box 60 (avs (Dev.cells d)))
abbrev capsM_c3 (d : Dev) : Nat × AV := (22, vi (d.clusters.length : Int))
abbrev capsM_c4 (d : Dev) : Nat × AV := (21, .rv (.sl 1 (d.clusters.map strC)))
abbrev capsM_c5 (k1_ : Nat) : Nat × AV := (23, vi (k1_ : Int))
theorem capsM_ok (d : Dev) (m : List (ByteArray × Cluster)) :
 ACalls Try.prog G_ 88 [.agg (avs (Dev.cells d)), .rv (mapM true kS Cluster.cells m)] [] 0 (fun r τ => r = vi (capsM d m) ∧ τ = []) := by
 refine ACalls.body Try.func88 rfl 50 [(0, .agg (avs (Dev.cells d))), (capsM_c1 m)] ?_
 refine AWp.hz [.run 2] 50 [(capsM_c1 m), (2, .ptr 0 0)] [(capsM_c2 d)] 1 ?_
 refine AWp.seq ?_
 refine AWp.join (Z 50 [(1, .rv (mapM true kS Cluster.cells m)), (2, .ptr 0 0), (19, vb (decide ((d.clusters.length : Int) < 1) || decide ((d.clusters.length : Int) > 4)))] [(0, .box 60 (avs (Dev.cells d)))] 1) ?_ ?_
 ·
  refine AWp.region ?_
  refine AOps.hzl [.run 2, .len strC d.clusters 1, .run 2] 50 [(capsM_c1 m), (2, .ptr 0 0), (14, vb (decide ((d.clusters.length : Int) < 1)))] [(capsM_c2 d)] 1 (fun hl => ?_)
  obtain ⟨hn1, -⟩ := hl
  refine AOps.hg [] (decide ((d.clusters.length : Int) < 1)) 50 (fun b_ => [(capsM_c1 m), (2, .ptr 0 0), (14, vb b_)]) [(capsM_c2 d)] 1 (fun hg2 => ?_) (fun hg2 => ?_)
  ·
   have hg2' := of_decide_eq_true hg2
   refine AOps.he [.run 5] 50 [(capsM_c1 m), (2, .ptr 0 0), (19, vb true)] [(capsM_c2 d)] 1 ?_
   exact leZ (by rw [hg2]; try kernel_rfl)
  ·
   have hg2' := of_decide_eq_false hg2
   refine AOps.hel [.run 2, .len strC d.clusters 1, .run 2] 50 [(capsM_c1 m), (2, .ptr 0 0), (19, vb (decide ((d.clusters.length : Int) > 4)))] [(capsM_c2 d)] 1 (fun hl => ?_)
   obtain ⟨hn3, -⟩ := hl
   exact leZ (by rw [hg2]; try kernel_rfl)
 ·
  refine AWp.cnd ((decide ((d.clusters.length : Int) < 1) || decide ((d.clusters.length : Int) > 4))) (fun h4 => ?_) (fun h4 => ?_)
  ·
   refine AWp.hz [.run 1] 50 [(4, vi 3)] [] 1 ?_
   refine AWp.ret ?_
   exact leafR (r := vi 3) (by show (vi 3 : AV) = vi (capsM d m); unfold capsM; (try rw [h4]); try kernel_rfl)
  ·
   have h4l := or_fl h4
   have h4l' := of_decide_eq_false h4l
   have h4r := or_fr h4
   have h4r' := of_decide_eq_false h4r
   refine AWp.skip ?_
   refine AWp.hz [.run 1] 50 [(capsM_c1 m), (2, .ptr 0 0), (5, vi 0)] [(capsM_c2 d)] 1 ?_
   refine AWp.seq ?_
   refine AWp.hzl [.run 2, .len strC d.clusters 1, .run 1] 50 [(capsM_c1 m), (2, .ptr 0 0), (5, vi 0), (capsM_c4 d), (capsM_c3 d), (23, vi 0)] [(capsM_c2 d)] 1 (fun hl => ?_)
   obtain ⟨hn5, -⟩ := hl
   refine AWp.joinE1 (A := Int) (fun x_ => Z 50 [(5, vi x_)] [] 1) (fun x_ => (capsM_L1 d m (0)) = .inr x_) ?_ ?_
   ·
    refine AWp.block ?_
    refine AWp.loop (ι := Nat × (Int)) (fun x_ => Z 50 [(capsM_c1 m), (2, .ptr 0 0), (5, vi x_.2), (capsM_c4 d), (capsM_c3 d), (23, vi (x_.1 : Int))] [(capsM_c2 d)] 1) (fun x_ => x_.1 ≤ d.clusters.length ∧ (capsM_L1 d m (0)) = loopS (capsM_B1 d m) x_.1 (d.clusters.length - x_.1) x_.2) (fun x_ => d.clusters.length - x_.1) (0, (0)) leZ ⟨Nat.zero_le _, rfl⟩ ?_
    rintro ⟨k1_, a1_0⟩ ⟨hk1_, hs1_⟩
    try dsimp only at hk1_
    try dsimp only at hs1_
    refine AWp.cv 50 [(capsM_c1 m), (2, .ptr 0 0), (5, vi a1_0), (capsM_c4 d), (capsM_c3 d), (capsM_c5 k1_)] [(capsM_c2 d)] 1 ?_
    refine AWp.hz [.run 1] 50 [(capsM_c1 m), (2, .ptr 0 0), (5, vi a1_0), (capsM_c4 d), (capsM_c3 d), (capsM_c5 k1_), (24, vb (decide ((k1_ : Int) < (d.clusters.length : Int))))] [(capsM_c2 d)] 1 ?_
    refine AWp.seq ?_
    refine AWp.cnd (decide ((k1_ : Int) < (d.clusters.length : Int))) (fun h6 => ?_) (fun h6 => ?_)
    ·
     have h6' := of_decide_eq_true h6
     refine AWp.skip ?_
     refine AWp.seq ?_
     refine AWp.block ?_
     obtain ⟨e1_, he1_⟩ := getEx (l := d.clusters) (j := k1_) (by omega)
     refine AWp.hz [.run 1, .idx strC d.clusters 1 k1_ e1_ he1_, .run 3] 50 [(capsM_c1 m), (2, .ptr 0 0), (5, vi a1_0), (6, vi (k1_ : Int)), (7, vs e1_), (capsM_c4 d), (capsM_c3 d), (capsM_c5 k1_)] [(capsM_c2 d)] 1 ?_
     refine AWp.rg ?_
     refine AOps.hz [.run 2] 50 [(capsM_c1 m), (2, .ptr 0 0), (5, vi a1_0), (6, vi (k1_ : Int)), (7, vs e1_), (capsM_c4 d), (capsM_c3 d), (capsM_c5 k1_), (29, .rv (mapM true kS Cluster.cells m)), (30, vs e1_)] [(capsM_c2 d)] 1 ?_
     refine AOps.split ((mget m e1_).isSome) (fun h7 => ?_) (fun h7 => ?_)
     ·
      refine AOps.mapGet keyS Cluster.cells true m e1_ ((mget m e1_).getD default) (.tmp 29) (.tmp 30) true 46 MapAt.m (mget_at h7) ?_
      refine AOps.he [.run 6] 50 [(capsM_c1 m), (2, .ptr 0 0), (5, vi a1_0), (6, vi (k1_ : Int)), (7, vs e1_), (8, .ptr 1 0), (9, vb true), (capsM_c4 d), (capsM_c3 d), (capsM_c5 k1_)] [(1, .box 46 (avs (Cluster.cells ((mget m e1_).getD default)))), (capsM_c2 d)] 2 ?_
      refine AWp.seq ?_
      refine AWp.hz [.run 2] 50 [(capsM_c1 m), (2, .ptr 0 0), (5, vi a1_0), (6, vi (k1_ : Int)), (7, vs e1_), (8, .ptr 1 0), (capsM_c4 d), (capsM_c3 d), (capsM_c5 k1_), (35, vb false)] [(1, .box 46 (avs (Cluster.cells ((mget m e1_).getD default)))), (capsM_c2 d)] 2 ?_
      refine AWp.cndF ?_
      refine AWp.skip ?_
      refine AWp.seq ?_
      refine AWp.hz [.run 3, .call 84 [.rv (.sl 1 (d.clusters.map strC)), vs e1_] (vi (nIndexM d.clusters e1_)) [] 0 (nIndexM_ok d.clusters e1_), .run 2] 50 [(capsM_c1 m), (2, .ptr 0 0), (5, vi a1_0), (8, .ptr 1 0), (capsM_c4 d), (capsM_c3 d), (capsM_c5 k1_), (41, vb (decide (nIndexM d.clusters e1_ < (k1_ : Int))))] [(1, .box 46 (avs (Cluster.cells ((mget m e1_).getD default)))), (capsM_c2 d)] 2 ?_
      refine AWp.cnd (decide (nIndexM d.clusters e1_ < (k1_ : Int))) (fun h8 => ?_) (fun h8 => ?_)
      ·
       have h8' := of_decide_eq_true h8
       refine AWp.hz [.run 1] 50 [(4, vi 9)] [] 2 ?_
       refine AWp.ret ?_
       have hL1_ : (capsM_L1 d m (0)) = .inl 9 := loopS_ret hs1_ (by omega) (by unfold capsM_B1; (try dsimp only); (try simp only [he1_]); (try rw [h6]); (try rw [h7]); (try rw [h8]); try kernel_rfl)
       exact leafR (r := vi 9) (by show (vi 9 : AV) = vi (capsM d m); unfold capsM; (try rw [h4]); (try rw [hL1_]); (try dsimp only); try kernel_rfl)
      ·
       have h8' := of_decide_eq_false h8
       refine AWp.skip ?_
       refine AWp.hel [.run 3, .len Attr.cells (((mget m e1_).getD default).attrs) 7, .run 2] 50 [(capsM_c1 m), (2, .ptr 0 0), (5, vi (IntKind.i64.wrap (a1_0 + (((((mget m e1_).getD default).attrs).length : Nat) : Int)))), (capsM_c4 d), (capsM_c3 d), (capsM_c5 k1_)] [(capsM_c2 d)] 2 (fun hl => ?_)
       obtain ⟨hn9, -⟩ := hl
       refine AWp.he [.cast (vi (IntKind.i64.wrap ((k1_ : Int) + 1))) (vi ((k1_ + 1 : Nat) : Int)) (congrArg vi (wrap_nat (by omega))), .run 1] 50 [(capsM_c1 m), (2, .ptr 0 0), (5, vi (IntKind.i64.wrap (a1_0 + (((((mget m e1_).getD default).attrs).length : Nat) : Int)))), (capsM_c4 d), (capsM_c3 d), (23, vi ((k1_ + 1 : Nat) : Int))] [(capsM_c2 d)] 2 ?_
       exact ⟨(k1_ + 1, (IntKind.i64.wrap (a1_0 + (((((mget m e1_).getD default).attrs).length : Nat) : Int)))), ⟨by show k1_ + 1 ≤ _; omega, loopS_next hs1_ (by omega) (by unfold capsM_B1; (try dsimp only); (try simp only [he1_]); (try rw [h6]); (try rw [h7]); (try rw [h8]); try kernel_rfl)⟩, by show _ - (k1_ + 1) < _ - k1_; omega, leG⟩
     ·
      refine AOps.mapGetN keyS Cluster.cells true m e1_ (.tmp 29) (.tmp 30) true 46 (.agg #[.string ⟨#[]⟩, .slice none 0 0, .slice none 0 0, .slice none 0 0]) MapAt.m (mget_no h7) ?_
      refine AOps.he [.run 6] 50 [(capsM_c1 m), (2, .ptr 0 0), (5, vi a1_0), (6, vi (k1_ : Int)), (7, vs e1_), (8, .ptr 1 0), (9, vb false), (capsM_c4 d), (capsM_c3 d), (capsM_c5 k1_)] [(1, .box 46 [vs (⟨#[]⟩), .rv (.v (.slice none 0 0)), .rv (.v (.slice none 0 0)), .rv (.v (.slice none 0 0))]), (capsM_c2 d)] 2 ?_
      refine AWp.seq ?_
      refine AWp.hz [.run 2] 50 [(capsM_c1 m), (2, .ptr 0 0), (5, vi a1_0), (6, vi (k1_ : Int)), (7, vs e1_), (8, .ptr 1 0), (capsM_c4 d), (capsM_c3 d), (capsM_c5 k1_), (35, vb true)] [(1, .box 46 [vs (⟨#[]⟩), .rv (.v (.slice none 0 0)), .rv (.v (.slice none 0 0)), .rv (.v (.slice none 0 0))]), (capsM_c2 d)] 2 ?_
      refine AWp.cndT ?_
      refine AWp.hz [.run 1] 50 [(4, vi 8)] [] 2 ?_
      refine AWp.ret ?_
      have hL1_ : (capsM_L1 d m (0)) = .inl 8 := loopS_ret hs1_ (by omega) (by unfold capsM_B1; (try dsimp only); (try simp only [he1_]); (try rw [h6]); (try rw [h7]); try kernel_rfl)
      exact leafR (r := vi 8) (by show (vi 8 : AV) = vi (capsM d m); unfold capsM; (try rw [h4]); (try rw [hL1_]); (try dsimp only); try kernel_rfl)
    ·
     have h6' := of_decide_eq_false h6
     refine AWp.exit ?_
     have hq1_ : (capsM_L1 d m (0)) = .inr (a1_0) := loopS_end hs1_ (by omega)
     exact ⟨(a1_0), hq1_, leG⟩
   ·
    rintro a1_0 hL1_
    refine AWp.seq ?_
    refine AWp.hz [.run 2] 50 [(49, vb (decide (a1_0 > 24)))] [] 1 ?_
    refine AWp.cnd (decide (a1_0 > 24)) (fun h10 => ?_) (fun h10 => ?_)
    ·
     have h10' := of_decide_eq_true h10
     refine AWp.hz [.run 1] 50 [(4, vi 3)] [] 1 ?_
     refine AWp.ret ?_
     exact leafR (r := vi 3) (by show (vi 3 : AV) = vi (capsM d m); unfold capsM; (try rw [h4]); (try rw [hL1_]); (try dsimp only); (try rw [h10]); try kernel_rfl)
    ·
     have h10' := of_decide_eq_false h10
     refine AWp.skip ?_
     refine AWp.hz [.run 1] 50 [(4, vi 0)] [] 1 ?_
     refine AWp.ret ?_
     exact leafR (r := vi 0) (by show (vi 0 : AV) = vi (capsM d m); unfold capsM; (try rw [h4]); (try rw [hL1_]); (try dsimp only); (try rw [h10]); try kernel_rfl)
def devCheckM_B1 (h : Home) (k1_ : Nat) (x_ : (List (Int × Bool))) : Step Int ((List (Int × Bool))) :=
 match x_ with
 | (a1_0) => (match (h.devices)[k1_]? with | some e1_ => (bif !(numbersM e1_) then .ret 2 else (bif decide ((k1_ : Int) > 0) then (match (h.devices)[(IntKind.i64.wrap ((k1_ : Int) - 1)).toNat]? with | some e2_ => (bif decide (e1_.id ≤ e2_.id) then .ret 14 else (bif ((mget a1_0 e1_.eui).isSome && ((mget a1_0 e1_.eui).getD default)) then .ret 9 else (bif !(validM e1_.room) then .ret 10 else (bif (capsM e1_ (clustersM h) != 0) then .ret (capsM e1_ (clustersM h)) else .nxt ((mput a1_0 e1_.eui true)))))) | none => .nxt x_) else (bif ((mget a1_0 e1_.eui).isSome && ((mget a1_0 e1_.eui).getD default)) then .ret 9 else (bif !(validM e1_.room) then .ret 10 else (bif (capsM e1_ (clustersM h) != 0) then .ret (capsM e1_ (clustersM h)) else .nxt ((mput a1_0 e1_.eui true))))))) | none => .nxt x_)
def devCheckM_L1 (h : Home) (x_ : (List (Int × Bool))) : Int ⊕ ((List (Int × Bool))) := loopS (devCheckM_B1 h) 0 h.devices.length x_
def devCheckM (h : Home) : Int :=
 (bif (allM h.clusters != 0) then allM h.clusters else (bif decide ((h.devices.length : Int) > 20) then 3 else (match (devCheckM_L1 h (([] : List (Int × Bool)))) with | .inl r_ => r_ | .inr (a1_0) => 0)))
abbrev devCheckM_c1 (h : Home) : Nat × AV := (4, .rv (mapM true kS Cluster.cells (clustersM h)))
abbrev devCheckM_c2 (h : Home) : Nat × AV := (23, .rv (.sl 7 (h.devices.map Dev.cells)))
abbrev devCheckM_c3 (h : Home) : Nat × AV := (24, vi (h.devices.length : Int))
abbrev devCheckM_c4 (h : Home) : Nat × AObj := (0, .box 40 (avs (Home.cells h)))
abbrev devCheckM_c5 (a1_0 : List (Int × Bool)) : Nat × AObj := (1, mapO false (kI .u64) boolC a1_0)
abbrev devCheckM_c6 (k1_ : Nat) : Nat × AV := (25, vi (k1_ : Int))
abbrev devCheckM_c7 (e1_ : Dev) : Nat × AObj := (2, .box 60 (avs (Dev.cells e1_)))
theorem devCheckM_ok (h : Home) :
 ACalls Try.prog G_ 83 [.agg (avs (Home.cells h))] [] 0 (fun r τ => r = vi (devCheckM h) ∧ τ = []) := by
 refine ACalls.body Try.func83 rfl 69 [(0, .agg (avs (Home.cells h)))] ?_
 refine AWp.hz [.run 2] 69 [(1, .ptr 0 0)] [(devCheckM_c4 h)] 1 ?_
 refine AWp.seq ?_
 refine AWp.hz [.run 2, .call 86 [.rv (.sl 4 (h.clusters.map Cluster.cells))] (vi (allM h.clusters)) [] 0 (allM_ok h.clusters), .run 1] 69 [(1, .ptr 0 0), (3, vi (allM h.clusters))] [(devCheckM_c4 h)] 1 ?_
 refine AWp.hz [.run 2] 69 [(1, .ptr 0 0), (3, vi (allM h.clusters)), (13, vb (allM h.clusters != 0))] [(devCheckM_c4 h)] 1 ?_
 refine AWp.cnd ((allM h.clusters != 0)) (fun h1 => ?_) (fun h1 => ?_)
 ·
  refine AWp.hz [.run 2] 69 [(2, vi (allM h.clusters))] [] 1 ?_
  refine AWp.ret ?_
  exact leafR (r := vi (allM h.clusters)) (by show (vi (allM h.clusters) : AV) = vi (devCheckM h); unfold devCheckM; (try rw [h1]); try kernel_rfl)
 ·
  refine AWp.skip ?_
  refine AWp.seq ?_
  refine AWp.hzl [.run 2, .len Dev.cells h.devices 7, .run 1] 69 [(1, .ptr 0 0), (18, vb (decide ((h.devices.length : Int) > 20)))] [(devCheckM_c4 h)] 1 (fun hl => ?_)
  obtain ⟨hn2, -⟩ := hl
  refine AWp.cnd (decide ((h.devices.length : Int) > 20)) (fun h3 => ?_) (fun h3 => ?_)
  ·
   have h3' := of_decide_eq_true h3
   refine AWp.hz [.run 1] 69 [(2, vi 3)] [] 1 ?_
   refine AWp.ret ?_
   exact leafR (r := vi 3) (by show (vi 3 : AV) = vi (devCheckM h); unfold devCheckM; (try rw [h1]); (try rw [h3]); try kernel_rfl)
  ·
   have h3' := of_decide_eq_false h3
   refine AWp.skip ?_
   refine AWp.hz [.run 1, .call 80 [.agg (avs (Home.cells h))] (.rv (mapM true kS Cluster.cells (clustersM h))) [] 0 (clustersM_ok h), .run 1] 69 [(1, .ptr 0 0), (devCheckM_c1 h)] [(devCheckM_c4 h)] 1 ?_
   refine AWp.rg ?_
   refine AOps.mapNew false ?_
   refine AOps.he [.run 1] 69 [(1, .ptr 0 0), (devCheckM_c1 h), (5, .ref 1)] [(1, mapO false (kI .u64) boolC ([] : List (Int × Bool))), (devCheckM_c4 h)] 2 ?_
   refine AWp.seq ?_
   refine AWp.hzl [.run 2, .len Dev.cells h.devices 7, .run 1] 69 [(1, .ptr 0 0), (devCheckM_c1 h), (5, .ref 1), (devCheckM_c2 h), (devCheckM_c3 h), (25, vi 0)] [(1, mapO false (kI .u64) boolC ([] : List (Int × Bool))), (devCheckM_c4 h)] 2 (fun hl => ?_)
   obtain ⟨hn4, -⟩ := hl
   refine AWp.joinE1 (A := (List (Int × Bool))) (fun x_ => Z 69 [] [] 2) (fun x_ => (devCheckM_L1 h (([] : List (Int × Bool)))) = .inr x_) ?_ ?_
   ·
    refine AWp.block ?_
    refine AWp.loop (ι := Nat × ((List (Int × Bool)))) (fun x_ => Z 69 [(1, .ptr 0 0), (devCheckM_c1 h), (5, .ref 1), (devCheckM_c2 h), (devCheckM_c3 h), (25, vi (x_.1 : Int))] [(1, mapO false (kI .u64) boolC x_.2), (devCheckM_c4 h)] 2) (fun x_ => x_.1 ≤ h.devices.length ∧ (devCheckM_L1 h (([] : List (Int × Bool)))) = loopS (devCheckM_B1 h) x_.1 (h.devices.length - x_.1) x_.2) (fun x_ => h.devices.length - x_.1) (0, (([] : List (Int × Bool)))) leZ ⟨Nat.zero_le _, rfl⟩ ?_
    rintro ⟨k1_, a1_0⟩ ⟨hk1_, hs1_⟩
    try dsimp only at hk1_
    try dsimp only at hs1_
    refine AWp.cv 69 [(1, .ptr 0 0), (devCheckM_c1 h), (5, .ref 1), (devCheckM_c2 h), (devCheckM_c3 h), (devCheckM_c6 k1_)] [(devCheckM_c5 a1_0), (devCheckM_c4 h)] 2 ?_
    refine AWp.hz [.run 1] 69 [(1, .ptr 0 0), (devCheckM_c1 h), (5, .ref 1), (devCheckM_c2 h), (devCheckM_c3 h), (devCheckM_c6 k1_), (26, vb (decide ((k1_ : Int) < (h.devices.length : Int))))] [(devCheckM_c5 a1_0), (devCheckM_c4 h)] 2 ?_
    refine AWp.seq ?_
    refine AWp.cnd (decide ((k1_ : Int) < (h.devices.length : Int))) (fun h5 => ?_) (fun h5 => ?_)
    ·
     have h5' := of_decide_eq_true h5
     refine AWp.skip ?_
     refine AWp.seq ?_
     refine AWp.block ?_
     obtain ⟨e1_, he1_⟩ := getEx (l := h.devices) (j := k1_) (by omega)
     refine AWp.hz [.run 1, .idx Dev.cells h.devices 7 k1_ e1_ he1_, .run 4] 69 [(1, .ptr 0 0), (devCheckM_c1 h), (5, .ref 1), (6, vi (k1_ : Int)), (7, .ptr 2 0), (devCheckM_c2 h), (devCheckM_c3 h), (devCheckM_c6 k1_)] [(devCheckM_c7 e1_), (devCheckM_c5 a1_0), (devCheckM_c4 h)] 3 ?_
     refine AWp.seq ?_
     refine AWp.block ?_
     refine AWp.hz [.run 1, .call 87 [.agg (avs (Dev.cells e1_))] (vb (numbersM e1_)) [] 0 (numbersM_ok e1_), .run 2] 69 [(1, .ptr 0 0), (devCheckM_c1 h), (5, .ref 1), (6, vi (k1_ : Int)), (7, .ptr 2 0), (devCheckM_c2 h), (devCheckM_c3 h), (devCheckM_c6 k1_), (30, vb (!(numbersM e1_)))] [(devCheckM_c7 e1_), (devCheckM_c5 a1_0), (devCheckM_c4 h)] 3 ?_
     refine AWp.cnd (!(numbersM e1_)) (fun h6 => ?_) (fun h6 => ?_)
     ·
      refine AWp.hz [.run 1] 69 [(2, vi 2)] [] 3 ?_
      refine AWp.ret ?_
      have hL1_ : (devCheckM_L1 h (([] : List (Int × Bool)))) = .inl 2 := loopS_ret hs1_ (by omega) (by unfold devCheckM_B1; (try dsimp only); (try simp only [he1_]); (try rw [h5]); (try rw [h6]); try kernel_rfl)
      exact leafR (r := vi 2) (by show (vi 2 : AV) = vi (devCheckM h); unfold devCheckM; (try rw [h1]); (try rw [h3]); (try rw [hL1_]); (try dsimp only); try kernel_rfl)
     ·
      refine AWp.split (decide ((k1_ : Int) > 0)) (fun h7 => ?_) (fun h7 => ?_)
      ·
       have h7' := of_decide_eq_true h7
       have := wrap64_of ((k1_ : Int) - 1) (by omega) (by omega)
       have ht8 : (IntKind.i64.wrap ((k1_ : Int) - 1)) = (((IntKind.i64.wrap ((k1_ : Int) - 1)).toNat : Nat) : Int) := (Int.toNat_of_nonneg (by omega)).symm
       obtain ⟨e2_, he2_⟩ := getEx (l := h.devices) (j := (IntKind.i64.wrap ((k1_ : Int) - 1)).toNat) (by omega)
       refine AWp.dz [vi (k1_ : Int), vb true, vb true, .ptr 2 0, vi e1_.id, .ptr 0 1, .rv (.sl 7 (h.devices.map Dev.cells)), vi (k1_ : Int), vi (((IntKind.i64.wrap ((k1_ : Int) - 1)).toNat : Nat) : Int), .rv (.ptr (Dev.cells e2_)), .rv (.ptr (Dev.cells e2_)), vi e2_.id, vb (decide (e1_.id ≤ e2_.id)), vb (decide (e1_.id ≤ e2_.id)), vb (decide (e1_.id ≤ e2_.id))] 69 [(1, .ptr 0 0), (devCheckM_c1 h), (5, .ref 1), (7, .ptr 2 0), (devCheckM_c2 h), (devCheckM_c3 h), (devCheckM_c6 k1_), (34, vb (decide (e1_.id ≤ e2_.id)))] [(devCheckM_c7 e1_), (devCheckM_c5 a1_0), (devCheckM_c4 h)] 3 ?_ ?_
       ·
        refine DSteps.cons (DStep.va) ?_
        refine DSteps.cons ((DStep.val (v := vb (decide ((k1_ : Int) > 0))) (by kernel_rfl) (by kernel_rfl)).cast (congrArg vb h7)) ?_
        refine DSteps.cons (DStep.va) ?_
        refine DSteps.cons (DStep.va) ?_
        refine DSteps.cons (DStep.va) ?_
        refine DSteps.cons (DStep.va) ?_
        refine DSteps.cons (DStep.va) ?_
        refine DSteps.cons (DStep.va) ?_
        refine DSteps.cons ((DStep.val (v := vi (IntKind.i64.wrap ((k1_ : Int) - 1))) (by kernel_rfl) (by kernel_rfl)).cast (congrArg vi ht8)) ?_
        refine DSteps.cons (DStep.vs (by kernel_rfl) (R_indexAddrM Dev.cells h.devices 7 ((IntKind.i64.wrap ((k1_ : Int) - 1)).toNat) rfl (by kernel_rfl) (by kernel_rfl) (by kernel_rfl) he2_)) ?_
        refine DSteps.cons (DStep.va) ?_
        refine DSteps.cons (DStep.va) ?_
        refine DSteps.cons (DStep.va) ?_
        refine DSteps.cons (DStep.va) ?_
        refine DSteps.cons (DStep.va) ?_
        exact DSteps.nl
       refine AWp.cnd (decide (e1_.id ≤ e2_.id)) (fun h9 => ?_) (fun h9 => ?_)
       ·
        have h9' := of_decide_eq_true h9
        refine AWp.hz [.run 1] 69 [(2, vi 14)] [] 3 ?_
        refine AWp.ret ?_
        have hL1_ : (devCheckM_L1 h (([] : List (Int × Bool)))) = .inl 14 := loopS_ret hs1_ (by omega) (by unfold devCheckM_B1; (try dsimp only); (try simp only [he1_]); (try simp only [he2_]); (try rw [h5]); (try rw [h6]); (try rw [h7]); (try rw [h9]); try kernel_rfl)
        exact leafR (r := vi 14) (by show (vi 14 : AV) = vi (devCheckM h); unfold devCheckM; (try rw [h1]); (try rw [h3]); (try rw [hL1_]); (try dsimp only); try kernel_rfl)
       ·
        have h9' := of_decide_eq_false h9
        refine AWp.join (Z 69 [(1, .ptr 0 0), (4, .rv (mapM true kS Cluster.cells (clustersM h))), (5, .ref 1), (7, .ptr 2 0), (23, .rv (.sl 7 (h.devices.map Dev.cells))), (24, vi (h.devices.length : Int)), (25, vi (k1_ : Int)), (49, vb ((mget a1_0 e1_.eui).isSome && ((mget a1_0 e1_.eui).getD default)))] [(2, .box 60 (avs (Dev.cells e1_))), (1, mapO false (kI .u64) boolC a1_0), (0, .box 40 (avs (Home.cells h)))] 3) ?_ ?_
        ·
         refine AWp.region ?_
         refine AOps.hz [.run 3] 69 [(1, .ptr 0 0), (devCheckM_c1 h), (5, .ref 1), (7, .ptr 2 0), (devCheckM_c2 h), (devCheckM_c3 h), (devCheckM_c6 k1_), (50, .ref 1), (52, .rv (.v (.int .u64 e1_.eui)))] [(devCheckM_c7 e1_), (devCheckM_c5 a1_0), (devCheckM_c4 h)] 3 ?_
         refine AOps.split ((mget a1_0 e1_.eui).isSome) (fun h10 => ?_) (fun h10 => ?_)
         ·
          refine AOps.mapGet (keyI .u64) boolC false a1_0 e1_.eui ((mget a1_0 e1_.eui).getD default) (.tmp 50) (.tmp 52) false 4 (MapAt.o 1) (mget_at h10) ?_
          refine AOps.he [.run 1] 69 [(1, .ptr 0 0), (devCheckM_c1 h), (5, .ref 1), (7, .ptr 2 0), (devCheckM_c2 h), (devCheckM_c3 h), (devCheckM_c6 k1_), (49, vb ((mget a1_0 e1_.eui).getD default))] [(devCheckM_c7 e1_), (devCheckM_c5 a1_0), (devCheckM_c4 h)] 3 ?_
          exact leZ (by rw [h10]; try kernel_rfl)
         ·
          refine AOps.mapGetN (keyI .u64) boolC false a1_0 e1_.eui (.tmp 50) (.tmp 52) false 4 (.bool false) (MapAt.o 1) (mget_no h10) ?_
          refine AOps.he [.run 1] 69 [(1, .ptr 0 0), (devCheckM_c1 h), (5, .ref 1), (7, .ptr 2 0), (devCheckM_c2 h), (devCheckM_c3 h), (devCheckM_c6 k1_), (49, vb false)] [(devCheckM_c7 e1_), (devCheckM_c5 a1_0), (devCheckM_c4 h)] 3 ?_
          exact leZ (by rw [h10]; try kernel_rfl)
        ·
         refine AWp.cnd (((mget a1_0 e1_.eui).isSome && ((mget a1_0 e1_.eui).getD default))) (fun h11 => ?_) (fun h11 => ?_)
         ·
          refine AWp.hz [.run 1] 69 [(2, vi 9)] [] 3 ?_
          refine AWp.ret ?_
          have hL1_ : (devCheckM_L1 h (([] : List (Int × Bool)))) = .inl 9 := loopS_ret hs1_ (by omega) (by unfold devCheckM_B1; (try dsimp only); (try simp only [he1_]); (try simp only [he2_]); (try rw [h5]); (try rw [h6]); (try rw [h7]); (try rw [h9]); (try rw [h11]); try kernel_rfl)
          exact leafR (r := vi 9) (by show (vi 9 : AV) = vi (devCheckM h); unfold devCheckM; (try rw [h1]); (try rw [h3]); (try rw [hL1_]); (try dsimp only); try kernel_rfl)
         ·
          refine AWp.hz [.run 2, .call 26 [vs e1_.room] (vb (validM e1_.room)) [] 0 (validM_ok e1_.room), .run 2] 69 [(1, .ptr 0 0), (devCheckM_c1 h), (5, .ref 1), (7, .ptr 2 0), (devCheckM_c2 h), (devCheckM_c3 h), (devCheckM_c6 k1_), (54, vb (!(validM e1_.room)))] [(devCheckM_c7 e1_), (devCheckM_c5 a1_0), (devCheckM_c4 h)] 3 ?_
          refine AWp.cnd (!(validM e1_.room)) (fun h12 => ?_) (fun h12 => ?_)
          ·
           refine AWp.hz [.run 1] 69 [(2, vi 10)] [] 3 ?_
           refine AWp.ret ?_
           have hL1_ : (devCheckM_L1 h (([] : List (Int × Bool)))) = .inl 10 := loopS_ret hs1_ (by omega) (by unfold devCheckM_B1; (try dsimp only); (try simp only [he1_]); (try simp only [he2_]); (try rw [h5]); (try rw [h6]); (try rw [h7]); (try rw [h9]); (try rw [h11]); (try rw [h12]); try kernel_rfl)
           exact leafR (r := vi 10) (by show (vi 10 : AV) = vi (devCheckM h); unfold devCheckM; (try rw [h1]); (try rw [h3]); (try rw [hL1_]); (try dsimp only); try kernel_rfl)
          ·
           refine AWp.skip ?_
           refine AWp.seq ?_
           refine AWp.hz [.run 2, .call 88 [.agg (avs (Dev.cells e1_)), .rv (mapM true kS Cluster.cells (clustersM h))] (vi (capsM e1_ (clustersM h))) [] 0 (capsM_ok e1_ (clustersM h)), .run 1] 69 [(1, .ptr 0 0), (devCheckM_c1 h), (5, .ref 1), (7, .ptr 2 0), (8, vi (capsM e1_ (clustersM h))), (devCheckM_c2 h), (devCheckM_c3 h), (devCheckM_c6 k1_)] [(devCheckM_c7 e1_), (devCheckM_c5 a1_0), (devCheckM_c4 h)] 3 ?_
           refine AWp.hz [.run 2] 69 [(1, .ptr 0 0), (devCheckM_c1 h), (5, .ref 1), (7, .ptr 2 0), (8, vi (capsM e1_ (clustersM h))), (devCheckM_c2 h), (devCheckM_c3 h), (devCheckM_c6 k1_), (63, vb (capsM e1_ (clustersM h) != 0))] [(devCheckM_c7 e1_), (devCheckM_c5 a1_0), (devCheckM_c4 h)] 3 ?_
           refine AWp.cnd ((capsM e1_ (clustersM h) != 0)) (fun h13 => ?_) (fun h13 => ?_)
           ·
            refine AWp.hz [.run 2] 69 [(2, vi (capsM e1_ (clustersM h)))] [] 3 ?_
            refine AWp.ret ?_
            have hL1_ : (devCheckM_L1 h (([] : List (Int × Bool)))) = .inl (capsM e1_ (clustersM h)) := loopS_ret hs1_ (by omega) (by unfold devCheckM_B1; (try dsimp only); (try simp only [he1_]); (try simp only [he2_]); (try rw [h5]); (try rw [h6]); (try rw [h7]); (try rw [h9]); (try rw [h11]); (try rw [h12]); (try rw [h13]); try kernel_rfl)
            exact leafR (r := vi (capsM e1_ (clustersM h))) (by show (vi (capsM e1_ (clustersM h)) : AV) = vi (devCheckM h); unfold devCheckM; (try rw [h1]); (try rw [h3]); (try rw [hL1_]); (try dsimp only); try kernel_rfl)
           ·
            refine AWp.skip ?_
            refine AWp.region ?_
            refine AOps.hz [.run 3] 69 [(1, .ptr 0 0), (devCheckM_c1 h), (5, .ref 1), (devCheckM_c2 h), (devCheckM_c3 h), (devCheckM_c6 k1_), (65, .ref 1), (67, .rv (.v (.int .u64 e1_.eui)))] [(devCheckM_c5 a1_0), (devCheckM_c4 h)] 3 ?_
            refine AOps.mapPut (keyI .u64) boolC false a1_0 e1_.eui true 1 (.tmp 65) (.tmp 67) (.const (.bool true)) ?_
            refine AOps.he [] 69 [(1, .ptr 0 0), (devCheckM_c1 h), (5, .ref 1), (devCheckM_c2 h), (devCheckM_c3 h), (devCheckM_c6 k1_)] [(1, mapO false (kI .u64) boolC (mput a1_0 e1_.eui true)), (devCheckM_c4 h)] 3 ?_
            refine AWp.he [.cast (vi (IntKind.i64.wrap ((k1_ : Int) + 1))) (vi ((k1_ + 1 : Nat) : Int)) (congrArg vi (wrap_nat (by omega))), .run 1] 69 [(1, .ptr 0 0), (devCheckM_c1 h), (5, .ref 1), (devCheckM_c2 h), (devCheckM_c3 h), (25, vi ((k1_ + 1 : Nat) : Int))] [(1, mapO false (kI .u64) boolC (mput a1_0 e1_.eui true)), (devCheckM_c4 h)] 3 ?_
            exact ⟨(k1_ + 1, ((mput a1_0 e1_.eui true))), ⟨by show k1_ + 1 ≤ _; omega, loopS_next hs1_ (by omega) (by unfold devCheckM_B1; (try dsimp only); (try simp only [he1_]); (try simp only [he2_]); (try rw [h5]); (try rw [h6]); (try rw [h7]); (try rw [h9]); (try rw [h11]); (try rw [h12]); (try rw [h13]); try kernel_rfl)⟩, by show _ - (k1_ + 1) < _ - k1_; omega, leG⟩
      ·
       have h7' := of_decide_eq_false h7
       refine AWp.dz [vi (k1_ : Int), vb false, vb false, .tuple [], .tuple [], .tuple [], .tuple [], .tuple [], .tuple [], .tuple [], .tuple [], .tuple [], .tuple [], vb false, vb false] 69 [(1, .ptr 0 0), (devCheckM_c1 h), (5, .ref 1), (7, .ptr 2 0), (devCheckM_c2 h), (devCheckM_c3 h), (devCheckM_c6 k1_), (34, vb false)] [(devCheckM_c7 e1_), (devCheckM_c5 a1_0), (devCheckM_c4 h)] 3 ?_ ?_
       ·
        refine DSteps.cons (DStep.va) ?_
        refine DSteps.cons ((DStep.val (v := vb (decide ((k1_ : Int) > 0))) (by kernel_rfl) (by kernel_rfl)).cast (congrArg vb h7)) ?_
        refine DSteps.cons (DStep.va) ?_
        refine DSteps.cons (DStep.skip (by kernel_rfl)) ?_
        refine DSteps.cons (DStep.skip (by kernel_rfl)) ?_
        refine DSteps.cons (DStep.skip (by kernel_rfl)) ?_
        refine DSteps.cons (DStep.skip (by kernel_rfl)) ?_
        refine DSteps.cons (DStep.skip (by kernel_rfl)) ?_
        refine DSteps.cons (DStep.skip (by kernel_rfl)) ?_
        refine DSteps.cons (DStep.skip (by kernel_rfl)) ?_
        refine DSteps.cons (DStep.skip (by kernel_rfl)) ?_
        refine DSteps.cons (DStep.skip (by kernel_rfl)) ?_
        refine DSteps.cons (DStep.skip (by kernel_rfl)) ?_
        refine DSteps.cons (DStep.va) ?_
        refine DSteps.cons (DStep.va) ?_
        exact DSteps.nl
       refine AWp.cndF ?_
       refine AWp.join (Z 69 [(1, .ptr 0 0), (4, .rv (mapM true kS Cluster.cells (clustersM h))), (5, .ref 1), (7, .ptr 2 0), (23, .rv (.sl 7 (h.devices.map Dev.cells))), (24, vi (h.devices.length : Int)), (25, vi (k1_ : Int)), (49, vb ((mget a1_0 e1_.eui).isSome && ((mget a1_0 e1_.eui).getD default)))] [(2, .box 60 (avs (Dev.cells e1_))), (1, mapO false (kI .u64) boolC a1_0), (0, .box 40 (avs (Home.cells h)))] 3) ?_ ?_
       ·
        refine AWp.region ?_
        refine AOps.hz [.run 3] 69 [(1, .ptr 0 0), (devCheckM_c1 h), (5, .ref 1), (7, .ptr 2 0), (devCheckM_c2 h), (devCheckM_c3 h), (devCheckM_c6 k1_), (50, .ref 1), (52, .rv (.v (.int .u64 e1_.eui)))] [(devCheckM_c7 e1_), (devCheckM_c5 a1_0), (devCheckM_c4 h)] 3 ?_
        refine AOps.split ((mget a1_0 e1_.eui).isSome) (fun h14 => ?_) (fun h14 => ?_)
        ·
         refine AOps.mapGet (keyI .u64) boolC false a1_0 e1_.eui ((mget a1_0 e1_.eui).getD default) (.tmp 50) (.tmp 52) false 4 (MapAt.o 1) (mget_at h14) ?_
         refine AOps.he [.run 1] 69 [(1, .ptr 0 0), (devCheckM_c1 h), (5, .ref 1), (7, .ptr 2 0), (devCheckM_c2 h), (devCheckM_c3 h), (devCheckM_c6 k1_), (49, vb ((mget a1_0 e1_.eui).getD default))] [(devCheckM_c7 e1_), (devCheckM_c5 a1_0), (devCheckM_c4 h)] 3 ?_
         exact leZ (by rw [h14]; try kernel_rfl)
        ·
         refine AOps.mapGetN (keyI .u64) boolC false a1_0 e1_.eui (.tmp 50) (.tmp 52) false 4 (.bool false) (MapAt.o 1) (mget_no h14) ?_
         refine AOps.he [.run 1] 69 [(1, .ptr 0 0), (devCheckM_c1 h), (5, .ref 1), (7, .ptr 2 0), (devCheckM_c2 h), (devCheckM_c3 h), (devCheckM_c6 k1_), (49, vb false)] [(devCheckM_c7 e1_), (devCheckM_c5 a1_0), (devCheckM_c4 h)] 3 ?_
         exact leZ (by rw [h14]; try kernel_rfl)
       ·
        refine AWp.cnd (((mget a1_0 e1_.eui).isSome && ((mget a1_0 e1_.eui).getD default))) (fun h15 => ?_) (fun h15 => ?_)
        ·
         refine AWp.hz [.run 1] 69 [(2, vi 9)] [] 3 ?_
         refine AWp.ret ?_
         have hL1_ : (devCheckM_L1 h (([] : List (Int × Bool)))) = .inl 9 := loopS_ret hs1_ (by omega) (by unfold devCheckM_B1; (try dsimp only); (try simp only [he1_]); (try rw [h5]); (try rw [h6]); (try rw [h7]); (try rw [h15]); try kernel_rfl)
         exact leafR (r := vi 9) (by show (vi 9 : AV) = vi (devCheckM h); unfold devCheckM; (try rw [h1]); (try rw [h3]); (try rw [hL1_]); (try dsimp only); try kernel_rfl)
        ·
         refine AWp.hz [.run 2, .call 26 [vs e1_.room] (vb (validM e1_.room)) [] 0 (validM_ok e1_.room), .run 2] 69 [(1, .ptr 0 0), (devCheckM_c1 h), (5, .ref 1), (7, .ptr 2 0), (devCheckM_c2 h), (devCheckM_c3 h), (devCheckM_c6 k1_), (54, vb (!(validM e1_.room)))] [(devCheckM_c7 e1_), (devCheckM_c5 a1_0), (devCheckM_c4 h)] 3 ?_
         refine AWp.cnd (!(validM e1_.room)) (fun h16 => ?_) (fun h16 => ?_)
         ·
          refine AWp.hz [.run 1] 69 [(2, vi 10)] [] 3 ?_
          refine AWp.ret ?_
          have hL1_ : (devCheckM_L1 h (([] : List (Int × Bool)))) = .inl 10 := loopS_ret hs1_ (by omega) (by unfold devCheckM_B1; (try dsimp only); (try simp only [he1_]); (try rw [h5]); (try rw [h6]); (try rw [h7]); (try rw [h15]); (try rw [h16]); try kernel_rfl)
          exact leafR (r := vi 10) (by show (vi 10 : AV) = vi (devCheckM h); unfold devCheckM; (try rw [h1]); (try rw [h3]); (try rw [hL1_]); (try dsimp only); try kernel_rfl)
         ·
          refine AWp.skip ?_
          refine AWp.seq ?_
          refine AWp.hz [.run 2, .call 88 [.agg (avs (Dev.cells e1_)), .rv (mapM true kS Cluster.cells (clustersM h))] (vi (capsM e1_ (clustersM h))) [] 0 (capsM_ok e1_ (clustersM h)), .run 1] 69 [(1, .ptr 0 0), (devCheckM_c1 h), (5, .ref 1), (7, .ptr 2 0), (8, vi (capsM e1_ (clustersM h))), (devCheckM_c2 h), (devCheckM_c3 h), (devCheckM_c6 k1_)] [(devCheckM_c7 e1_), (devCheckM_c5 a1_0), (devCheckM_c4 h)] 3 ?_
          refine AWp.hz [.run 2] 69 [(1, .ptr 0 0), (devCheckM_c1 h), (5, .ref 1), (7, .ptr 2 0), (8, vi (capsM e1_ (clustersM h))), (devCheckM_c2 h), (devCheckM_c3 h), (devCheckM_c6 k1_), (63, vb (capsM e1_ (clustersM h) != 0))] [(devCheckM_c7 e1_), (devCheckM_c5 a1_0), (devCheckM_c4 h)] 3 ?_
          refine AWp.cnd ((capsM e1_ (clustersM h) != 0)) (fun h17 => ?_) (fun h17 => ?_)
          ·
           refine AWp.hz [.run 2] 69 [(2, vi (capsM e1_ (clustersM h)))] [] 3 ?_
           refine AWp.ret ?_
           have hL1_ : (devCheckM_L1 h (([] : List (Int × Bool)))) = .inl (capsM e1_ (clustersM h)) := loopS_ret hs1_ (by omega) (by unfold devCheckM_B1; (try dsimp only); (try simp only [he1_]); (try rw [h5]); (try rw [h6]); (try rw [h7]); (try rw [h15]); (try rw [h16]); (try rw [h17]); try kernel_rfl)
           exact leafR (r := vi (capsM e1_ (clustersM h))) (by show (vi (capsM e1_ (clustersM h)) : AV) = vi (devCheckM h); unfold devCheckM; (try rw [h1]); (try rw [h3]); (try rw [hL1_]); (try dsimp only); try kernel_rfl)
          ·
           refine AWp.skip ?_
           refine AWp.region ?_
           refine AOps.hz [.run 3] 69 [(1, .ptr 0 0), (devCheckM_c1 h), (5, .ref 1), (devCheckM_c2 h), (devCheckM_c3 h), (devCheckM_c6 k1_), (65, .ref 1), (67, .rv (.v (.int .u64 e1_.eui)))] [(devCheckM_c5 a1_0), (devCheckM_c4 h)] 3 ?_
           refine AOps.mapPut (keyI .u64) boolC false a1_0 e1_.eui true 1 (.tmp 65) (.tmp 67) (.const (.bool true)) ?_
           refine AOps.he [] 69 [(1, .ptr 0 0), (devCheckM_c1 h), (5, .ref 1), (devCheckM_c2 h), (devCheckM_c3 h), (devCheckM_c6 k1_)] [(1, mapO false (kI .u64) boolC (mput a1_0 e1_.eui true)), (devCheckM_c4 h)] 3 ?_
           refine AWp.he [.cast (vi (IntKind.i64.wrap ((k1_ : Int) + 1))) (vi ((k1_ + 1 : Nat) : Int)) (congrArg vi (wrap_nat (by omega))), .run 1] 69 [(1, .ptr 0 0), (devCheckM_c1 h), (5, .ref 1), (devCheckM_c2 h), (devCheckM_c3 h), (25, vi ((k1_ + 1 : Nat) : Int))] [(1, mapO false (kI .u64) boolC (mput a1_0 e1_.eui true)), (devCheckM_c4 h)] 3 ?_
           exact ⟨(k1_ + 1, ((mput a1_0 e1_.eui true))), ⟨by show k1_ + 1 ≤ _; omega, loopS_next hs1_ (by omega) (by unfold devCheckM_B1; (try dsimp only); (try simp only [he1_]); (try rw [h5]); (try rw [h6]); (try rw [h7]); (try rw [h15]); (try rw [h16]); (try rw [h17]); try kernel_rfl)⟩, by show _ - (k1_ + 1) < _ - k1_; omega, leG⟩
    ·
     have h5' := of_decide_eq_false h5
     refine AWp.exit ?_
     have hq1_ : (devCheckM_L1 h (([] : List (Int × Bool)))) = .inr (a1_0) := loopS_end hs1_ (by omega)
     exact ⟨(a1_0), hq1_, leG⟩
   ·
    rintro a1_0 hL1_
    refine AWp.hz [.run 1] 69 [(2, vi 0)] [] 2 ?_
    refine AWp.ret ?_
    exact leafR (r := vi 0) (by show (vi 0 : AV) = vi (devCheckM h); unfold devCheckM; (try rw [h1]); (try rw [h3]); (try rw [hL1_]); (try dsimp only); try kernel_rfl)
def devFindM_B1 (h : Home) (n : Int) (k1_ : Nat) : Option (Dev × Bool) :=
 (match (h.devices)[k1_]? with | some e1_ => (bif (e1_.id == n) then some (e1_, true) else none) | none => none)
def devFindM_L1 (h : Home) (n : Int) : Option (Dev × Bool) := scanN (devFindM_B1 h n) 0 h.devices.length
def devFindM (h : Home) (n : Int) : Dev × Bool :=
 (bif (devCheckM h != 0) then ((⟨0, 0, 0, false, 0, ⟨#[]⟩, []⟩ : Dev), false) else ((devFindM_L1 h n).getD ((⟨0, 0, 0, false, 0, ⟨#[]⟩, []⟩ : Dev), false)))
abbrev devFindM_c1 : Nat × AObj := (1, .box 60 [vi 0, .rv (.v (.int .u64 0)), vi 0, vb false, vi 0, vs (⟨#[]⟩), .rv (.v (.slice none 0 0))])
abbrev devFindM_c2 (h : Home) : Nat × AV := (13, .rv (.sl 7 (h.devices.map Dev.cells)))
abbrev devFindM_c3 (h : Home) : Nat × AV := (14, vi (h.devices.length : Int))
theorem devFindM_ok (h : Home) (n : Int) :
 ACalls Try.prog G_ 79 [.agg (avs (Home.cells h)), vi n] [] 0 (fun r τ => r = .tuple [.agg (avs (Dev.cells ((devFindM h n).1))), vb ((devFindM h n).2)] ∧ τ = []) := by
 refine ACalls.body Try.func79 rfl 26 [(0, .agg (avs (Home.cells h))), (1, vi n)] ?_
 refine AWp.hz [.run 3] 26 [(1, vi n), (2, .ptr 0 0), (4, .ptr 1 0)] [devFindM_c1, (0, .box 40 (avs (Home.cells h)))] 2 ?_
 refine AWp.seq ?_
 refine AWp.hz [.run 1, .call 83 [.agg (avs (Home.cells h))] (vi (devCheckM h)) [] 0 (devCheckM_ok h), .run 1] 26 [(1, vi n), (2, .ptr 0 0), (4, .ptr 1 0), (10, vb (devCheckM h != 0))] [devFindM_c1, (0, .box 40 (avs (Home.cells h)))] 2 ?_
 refine AWp.cnd ((devCheckM h != 0)) (fun h1 => ?_) (fun h1 => ?_)
 ·
  refine AWp.hz [.run 3] 26 [(4, .ptr 1 0), (5, vb false)] [devFindM_c1] 2 ?_
  refine AWp.le (Le.nilsB (s' := Z 26 [(4, .ptr 1 0), (5, vb false)] [(1, .box 60 [vi 0, .rv (.v (.int .u64 0)), vi 0, vb false, vi 0, vs (⟨#[]⟩), .rv (.sl 1 (([]).map strC))])] 2) 1 [none, none, none, none, none, none, some 1] (by kernel_rfl)) ?_
  refine AWp.ret ?_
  exact leafR (r := .tuple [.agg [vi 0, .rv (.v (.int .u64 0)), vi 0, vb false, vi 0, vs (⟨#[]⟩), .rv (.sl 1 (([]).map strC))], vb false]) (by show (.tuple [.agg [vi 0, .rv (.v (.int .u64 0)), vi 0, vb false, vi 0, vs (⟨#[]⟩), .rv (.sl 1 (([]).map strC))], vb false] : AV) = .tuple [.agg (avs (Dev.cells ((devFindM h n).1))), vb ((devFindM h n).2)]; unfold devFindM; (try rw [h1]); try kernel_rfl)
 ·
  refine AWp.skip ?_
  refine AWp.seq ?_
  refine AWp.hzl [.run 2, .len Dev.cells h.devices 7, .run 1] 26 [(1, vi n), (4, .ptr 1 0), (devFindM_c2 h), (devFindM_c3 h), (15, vi 0)] [devFindM_c1] 2 (fun hl => ?_)
  obtain ⟨hn2, -⟩ := hl
  refine AWp.block ?_
  refine AWp.loop (ι := Nat) (fun k1_ => Z 26 [(1, vi n), (4, .ptr 1 0), (devFindM_c2 h), (devFindM_c3 h), (15, vi (k1_ : Int))] [devFindM_c1] 2) (fun k1_ => k1_ ≤ h.devices.length ∧ devFindM_L1 h n = scanN (devFindM_B1 h n) k1_ (h.devices.length - k1_)) (fun k1_ => h.devices.length - k1_) 0 leZ ⟨Nat.zero_le _, rfl⟩ ?_
  intro k1_ ⟨hk1_, hs1_⟩
  refine AWp.hz [.run 1] 26 [(1, vi n), (4, .ptr 1 0), (devFindM_c2 h), (devFindM_c3 h), (15, vi (k1_ : Int)), (16, vb (decide ((k1_ : Int) < (h.devices.length : Int))))] [devFindM_c1] 2 ?_
  refine AWp.seq ?_
  refine AWp.cnd (decide ((k1_ : Int) < (h.devices.length : Int))) (fun h3 => ?_) (fun h3 => ?_)
  ·
   have h3' := of_decide_eq_true h3
   refine AWp.skip ?_
   refine AWp.seq ?_
   refine AWp.block ?_
   obtain ⟨e1_, he1_⟩ := getEx (l := h.devices) (j := k1_) (by omega)
   refine AWp.hz [.idx Dev.cells h.devices 7 k1_ e1_ he1_, .run 3] 26 [(1, vi n), (4, .ptr 1 0), (7, .ptr 2 0), (devFindM_c2 h), (devFindM_c3 h), (15, vi (k1_ : Int))] [(2, .box 60 (avs (Dev.cells e1_))), devFindM_c1] 3 ?_
   refine AWp.hz [.run 4] 26 [(1, vi n), (4, .ptr 1 0), (7, .ptr 2 0), (devFindM_c2 h), (devFindM_c3 h), (15, vi (k1_ : Int)), (22, vb (e1_.id == n))] [(2, .box 60 (avs (Dev.cells e1_))), devFindM_c1] 3 ?_
   refine AWp.cnd ((e1_.id == n)) (fun h4 => ?_) (fun h4 => ?_)
   ·
    refine AWp.hz [.run 3] 26 [(4, .ptr 1 0), (5, vb true)] [(1, .box 60 (avs (Dev.cells e1_)))] 3 ?_
    refine AWp.ret ?_
    have hL1_ : devFindM_L1 h n = some (e1_, true) := scanN_some hs1_ (by omega) (by unfold devFindM_B1; (try simp only [he1_]); (try rw [h3]); (try rw [h4]); try kernel_rfl)
    exact leafR (r := .tuple [.agg (avs (Dev.cells e1_)), vb true]) (by show (.tuple [.agg (avs (Dev.cells e1_)), vb true] : AV) = .tuple [.agg (avs (Dev.cells ((devFindM h n).1))), vb ((devFindM h n).2)]; unfold devFindM; (try rw [h1]); (try rw [hL1_]); try kernel_rfl)
   ·
    refine AWp.skip ?_
    refine AWp.he [.cast (vi (IntKind.i64.wrap ((k1_ : Int) + 1))) (vi ((k1_ + 1 : Nat) : Int)) (congrArg vi (wrap_nat (by omega))), .run 1] 26 [(1, vi n), (4, .ptr 1 0), (devFindM_c2 h), (devFindM_c3 h), (15, vi ((k1_ + 1 : Nat) : Int))] [devFindM_c1] 3 ?_
    exact ⟨k1_ + 1, ⟨by omega, scanN_none hs1_ (by omega) (by unfold devFindM_B1; (try simp only [he1_]); (try rw [h3]); (try rw [h4]); try kernel_rfl)⟩, by omega, leG⟩
  ·
   have h3' := of_decide_eq_false h3
   refine AWp.exit ?_
   have hL1_ : devFindM_L1 h n = none := scanN_end hs1_ (by omega)
   refine AWp.hz [.run 3] 26 [(4, .ptr 1 0), (5, vb false)] [devFindM_c1] 2 ?_
   refine AWp.le (Le.nilsB (s' := Z 26 [(4, .ptr 1 0), (5, vb false)] [(1, .box 60 [vi 0, .rv (.v (.int .u64 0)), vi 0, vb false, vi 0, vs (⟨#[]⟩), .rv (.sl 1 (([]).map strC))])] 2) 1 [none, none, none, none, none, none, some 1] (by kernel_rfl)) ?_
   refine AWp.ret ?_
   exact leafR (r := .tuple [.agg [vi 0, .rv (.v (.int .u64 0)), vi 0, vb false, vi 0, vs (⟨#[]⟩), .rv (.sl 1 (([]).map strC))], vb false]) (by show (.tuple [.agg [vi 0, .rv (.v (.int .u64 0)), vi 0, vb false, vi 0, vs (⟨#[]⟩), .rv (.sl 1 (([]).map strC))], vb false] : AV) = .tuple [.agg (avs (Dev.cells ((devFindM h n).1))), vb ((devFindM h n).2)]; unfold devFindM; (try rw [h1]); (try rw [hL1_]); try kernel_rfl)
end Go.Proofs.Ytnnlaccdendkpaa
